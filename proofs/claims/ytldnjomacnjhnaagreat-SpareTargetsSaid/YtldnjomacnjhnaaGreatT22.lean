/- Part 22 of the proof of ST.row_holds, joined by program: no condition beyond the row's own. -/
import Derived.Test.YtldnjomacnjhnaaGreatT21
import Derived.Test.YtldnjomacnjhnaaGreatRows
import Derived.LaidMore
import Derived.OpenShut
import Derived.ShutString
import Derived.ChangeOld
import Derived.Lib.LaidTab
import Derived.Stop.Joined
import Derived.HandedShaped
import Derived.Deep.Fields
set_option maxRecDepth 100000
set_option maxHeartbeats 40000000
namespace Go.Proofs.YtldnjomacnjhnaaGreat.Open
open Go.ChangeShapes Go.WideShapes Go.ChangeAt Go.RowKit Go.Deep
section
variable {H:Type} {enc:TypeId×Value->H} {W:World} {n:Nat} {y:DataW H×List MemPlace} {cs:List Value}
theorem yP (hl:cs.length=3) (h:DataW.trod enc Tryz.prog W 0 (λ_=>true) true n 87 cs=some y):∃a:Ac,Aa1 W (rg 0 W.heap.size) a cs/\(a.name.size<=maxLen/\Ct a.len):=by
 match cs,hl with
 |[a,b,c],_=>
  obtain⟨m0,z0,h0⟩:=Gr (ty:=9) (off:=0) Tryz.underlying87 h 0 (by rfl)
  obtain⟨m1,z1,h1⟩:=Gr (ty:=3) (off:=1) Tryz.underlying87 h 1 (by rfl)
  obtain⟨m2,z2,h2⟩:=Gr (ty:=85) (off:=2) Tryz.underlying87 h 2 (by rfl)
  simp only[AaP,Aec,AcQ] at h0 h1 h2
  obtain⟨s,e0,_,hs⟩:=DataW.trod_string Tryz.underlying9 h0
  obtain⟨k1,e1,f1⟩:=Ho h1
  obtain⟨ad,len,cap,e2⟩:=Go.Joins.slice_form Tryz.underlying85 h2
  rw[e2] at h2
  obtain⟨l,g1,g2,g3,_⟩:=Ml Tryz.underlying85 Ae1 (by decide) h2
  obtain⟨L,L1,L2⟩:=Vv (cells:=Mv.cells) l (λcs hc=>by obtain⟨hl,n,y,ht⟩:=g2 cs hc;exact yQ hl ht)
  simp at e0 e1 e2
  refine⟨⟨s,k1,L⟩,⟨.slice ad len cap,by simp[e0,e1,e2],?_⟩,hs,f1⟩
  show Cw W _ 6 _ L.length (yH L)
  have hL:L.length=len:=by omega
  rw[hL]
  unfold yH
  rw[<-L2]
  exact g3
theorem mP:∀(l:List (List Value)) (_:∀cs∈l,∃a:Ac,Aa1 W (rg 0 W.heap.size) a cs/\(a.name.size<=maxLen/\Ct a.len)),∃L:List Ac,L.length=l.length/\Re W (rg 0 W.heap.size) L l.flatten/\∀a∈L,(a.name.size<=maxLen/\Ct a.len)
 |[],_=>⟨[],rfl,rfl,by simp⟩
 |cs::l,h=>by
  obtain⟨a,ha,hs⟩:=h cs (by simp)
  obtain⟨L,h1,h2,h3⟩:=mP l (λc hc=>h c (by simp[hc]))
  refine⟨a::L,by simp[h1],⟨cs,l.flatten,by simp,ha,h2⟩,λx hx=>?_⟩
  rcases List.mem_cons.1 hx with rfl|hx
  exact hs
  exact h3 x hx
theorem open_prog2 {v:Value} {d:DataW H} {p:List MemPlace} {base:Nat} (hv:Value.okWide Tryz.prog W .any base 31 v) (h:DataW.Trod enc Tryz.prog W 0 (λ_=>true) true 31 v d p):
  ∃(vn vh va:Value) (pr:Pr),v= .agg #[vn,vh,va]/\Ib W W.heap.size vn vh va pr/\(∀s∈pr.names,s.size<=maxLen)/\(∀a∈pr.acts,(a.name.size<=maxLen/\Ct a.len)):=by
 obtain⟨v0,v1,v2,y0,y1,y2,n,rfl,_,_,h0,h1,h2⟩:=Go.Joins.open_agg3 Tryz.underlying31 (by kernel_rfl) (by kernel_rfl) hv h
 obtain⟨a0,l0,c0,e0⟩:=Go.Joins.slice_form Tryz.underlying28 h0
 obtain⟨a1,l1,c1,e1⟩:=Go.Joins.slice_form Tryz.underlying22 h1
 obtain⟨a2,l2,c2,e2⟩:=Go.Joins.slice_form Tryz.underlying29 h2
 obtain rfl:v0= .slice a0 l0 c0:=by simpa using e0
 obtain rfl:v1= .slice a1 l1 c1:=by simpa using e1
 obtain rfl:v2= .slice a2 l2 c2:=by simpa using e2
 obtain⟨N,hN,sN,_,zN⟩:=sI h0
 obtain⟨lh,g1,g2,g3,_⟩:=Ml Tryz.underlying22 AaQ (by decide) h1
 obtain⟨Hm,H1,H2⟩:=Vv (cells:=λv:V3=>[.int .i64 v.x,.int .i64 v.y,.int .i64 v.z]) lh (λcs hc=>by obtain⟨hl,n,y,ht⟩:=g2 cs hc;exact cF hl ht)
 obtain⟨la,k1,k2,k3,_⟩:=Ml Tryz.underlying29 Afq (by decide) h2
 obtain⟨Ac,A1,A2,A3⟩:=mP la (λcs hc=>by obtain⟨hl,n,y,ht⟩:=k2 cs hc;exact yP hl ht)
 refine⟨_,_,_,⟨N,Hm,Ac⟩,rfl,⟨sN,?_,la.flatten,?_,A2⟩,zN,A3⟩
 have hL:Hm.length=l1:=by omega
 show Cb W 0 W.heap.size 3 _ Hm.length (Iu Hm)
 rw[hL]
 unfold Iu
 rw[<-H2]
 exact g3
 have hL:Ac.length=l2:=by omega
 show Cb W 0 W.heap.size 3 _ Ac.length _
 rw[hL]
 exact k3
theorem oS {a0:Option Addr} {len0 cap0 fuel:Nat} {t e:TypeId} (ht:Tryz.prog.underlying t=some (.slice e)) (h:DataW.trod enc Tryz.prog W 0 (λ_=>true) true fuel t [.slice a0 len0 cap0]=some y):len0<=cap0:=by
 rcases open_slice ht h with⟨hcs,_⟩|⟨x,n,c,m,nn,D,Pl,hcs,_,hl,hm,hmm,_,hi⟩
 simp at hcs
 obtain⟨rfl,rfl,rfl⟩:=hcs
 exact Nat.le_refl _
 simp at hcs
 obtain⟨rfl,rfl,rfl⟩:=hcs
 have hmm':m=cap0:=by simpa using hmm
 omega
theorem open_case {v:Value} {d:DataW H} {p:List MemPlace} {base:Nat} (hv:Value.okWide Tryz.prog W .any base 33 v) (h:DataW.Trod enc Tryz.prog W 0 (λ_=>true) true 33 v d p):
  ∃c:Cs,v= .agg #[.int .i64 c.craft,.int .i64 c.act]/\Qa c:=by
 obtain⟨v0,v1,y0,y1,n,rfl,_,_,h0,h1⟩:=Go.Joins.open_agg2 Tryz.underlying33 (by kernel_rfl) (by kernel_rfl) hv h
 obtain⟨k0,e0,f0⟩:=Ho h0
 obtain⟨k1,e1,f1⟩:=Ho h1
 simp at e0 e1
 exact⟨⟨k0,k1⟩,by simp[e0,e1],⟨f0,f1⟩⟩
end
end Go.Proofs.YtldnjomacnjhnaaGreat.Open
namespace Go.Proofs.YtldnjomacnjhnaaGreat
open Go.RowKit
theorem wN {w:World} {D:Nat->Prop} {l:List V3} {v:Value} (h:Cw w D 3 v l.length (Iu l)) {E:Bl} (hw:E.w=w) (hD:∀b,D b->E.D b):VR E (Ik l) v:=
 Oa h hw hD λi j hi hj=>by
  have:=Mh (λv:V3=>[Value.int .i64 v.x,.int .i64 v.y,.int .i64 v.z]) 3 (λ_=>rfl) l i j V3.zero hi hj
  unfold Iu
  rw[this]
  match j,hj with
  |0,_=>exact .lit _ _
  |1,_=>exact .lit _ _
  |2,_=>exact .lit _ _
theorem AeD {w:World} {D:Nat->Prop} {l:List Mv} {v:Value} (h:Cw w D 6 v l.length (yH l)) {E:Bl} (hw:E.w=w) (hD:∀b,D b->E.D b):VR E (Ab8 l) v:=
 Oa h hw hD λi j hi hj=>by
  have:=Mh Mv.cells 6 (λ_=>rfl) l i j Mv.none hi hj
  unfold yH
  rw[this]
  match j,hj with
  |0,_=>exact .lit _ _
  |1,_=>exact .lit _ _
  |2,_=>exact .lit _ _
  |3,_=>exact .lit _ _
  |4,_=>exact .lit _ _
  |5,_=>exact .lit _ _
theorem AbA {w:World} {D:Nat->Prop} {l:List ByteArray} {v:Value} (h:Cw w D 1 v l.length (strs l)) {E:Bl} (hw:E.w=w) (hD:∀b,D b->E.D b):VR E (Ga l) v:=
 Oa h hw hD λi j hi hj=>by
  obtain rfl:j=0:=by omega
  have e:(strs l).getD (i*1+0) undef= .string (l.getD i ByteArray.empty):=by simp[strs,List.getD_eq_getElem?_getD,hi]
  rw[e]
  exact .lit _ _
theorem AcK {w:World} {D:Nat->Prop} {l:List Ac} {v:Value} {cs:List Value} (h:Cw w D 3 v l.length cs) (ha:Re w D l cs) {E:Bl} (hw:E.w=w) (hD:∀b,D b->E.D b):VR E (Ha l) v:=
 Oa h hw hD λi j hi hj=>by
  obtain⟨vm,hm,hat⟩:=ha.at_ hi
  have e:l.getD i Ac.none=l[i]:=by rw[List.getD_eq_getElem?_getD,List.getElem?_eq_getElem hi];rfl
  have g:∀u,[Value.string l[i].name,.int .i64 l[i].len,vm][j]?=some u->cs.getD (i*3+j) undef=u:=λu hu=>by
   rw[List.getD_eq_getElem?_getD,hat j u hu];rfl
  rw[e]
  match j,hj with
  |0,_=>rw[g _ rfl];exact .lit _ _
  |1,_=>rw[g _ rfl];exact .lit _ _
  |2,_=>rw[g _ rfl];exact AeD (E:=E.fz) hm hw hD
theorem Ad1 {w:World} {hi:Nat} {vn vh va:Value} {p:Pr} (h:Ib w hi vn vh va p) {E:Bl} (hw:E.w=w) (hD:∀b,b<hi->E.D b):VR E (Ey p) (.agg #[vn,vh,va]):=by
 obtain⟨cs,k1,k2⟩:=h.acts
 have hD2:∀b,rg 0 hi b->E.D b:=λb hb=>hD b hb.2
 refine .agg _ _ _ rfl λi hi=>?_
 have h3:i<3:=hi
 match i,h3 with
 |0,_=>exact AbA h.names hw hD2
 |1,_=>exact wN h.homes hw hD2
 |2,_=>exact AcK k1 k2 hw hD2
theorem AF.call {P:Program} {f:FuncId} {args:List AV} {v:Value} (h:AF P f args (.lit v)) (W:World) (vs:Array Value) (hn:vs.size=args.length) (hv:∀E:Bl,E.w=W->(∀b,b<W.heap.size->E.D b)->∀i,i<args.length->VR E (args.getD i .top) (vs.getD i undef)):Calls P f vs W λe w'=>e= .returned v/\Below W.heap.size W w':=by
 refine(h { π:=λ_=>0,cap:=λ_=>0,A:=λ_=>False,D:=λb=>b<W.heap.size,w:=W } vs (λb hb=>hb) hn λi hi=>hv _ rfl (λb hb=>hb) i hi).mono ?_
 rintro e w' ⟨u,D',rfl,hr,hb,_⟩
 exact⟨by rw[hr.lit_inv],hb⟩
end Go.Proofs.YtldnjomacnjhnaaGreat
namespace Go.Proofs.YtldnjomacnjhnaaGreat
end Go.Proofs.YtldnjomacnjhnaaGreat
namespace Go.Proofs.YtldnjomacnjhnaaGreat
open Go.Proofs.Tryz
open Go.RowKit
theorem xW {a b:List Int} (h:a.length=b.length) (hq:∀q,q<a.length->a.getD q 0=b.getD q 0):a=b:=by
 refine List.ext_getElem h λi h1 h2=>?_
 have:=hq i h1
 rwa [List.getD_eq_getElem?_getD,List.getD_eq_getElem?_getD,List.getElem?_eq_getElem h1,List.getElem?_eq_getElem h2] at this
theorem AeN {s t:Sg} (h1:s.f=t.f) (h2:s.t=t.t) (h3:s.o=t.o) (h4:s.x=t.x) (h5:s.y=t.y) (h6:s.z=t.z):s=t:=by
 cases s;cases t;simp_all
theorem Aaz {f:FuncId} {args args':List AV} {r r':AV} (h:AF Tryz.prog f args r) (hl:args'.length=args.length) (ha:∀i,i<args.length->∀E v,VR E (args'.getD i .top) v->VR E (args.getD i .top) v) (hr:∀E v,VR E r v->VR E r' v):AF Tryz.prog f args' r':=λE vs hD hn hv=>by
 refine Calls.mono (h E vs hD (by omega) λi hi=>ha i hi _ _ (hv i (by omega))) ?_
 rintro e w' ⟨v,D',h1,h2,h3⟩
 exact⟨v,D',h1,hr _ _ h2,h3⟩
theorem iD (l:List V3) (n:Nat) (v:V3) (hn:n<=1000000):AF Tryz.prog 34 [.slc 3 n λi=>Hf (l.getD i V3.zero),Hf v] (.bool (bP (∃q,q<n/\(l.getD q V3.zero).x=v.x/\(l.getD q V3.zero).y=v.y/\(l.getD q V3.zero).z=v.z))):=
 Aaz (lV l n v hn) rfl (λi hi E u h=>by
  match i,hi with
  |0,_=>cases h;assumption
  |1,_=>exact h) λ_ _ h=>h
theorem eT (l:List Int) (M:Int) (hl:l.length<=1000000):AF Tryz.prog 35 [Dg l,.int 0,.int M] (.bool (bP (Of l M))):=by
 refine Cq func35 rfl λB D0 hA0=>?_
 refine Ae 12 ?_
 refine Ft 12 ((l.length:Int)<1) (λhx1 hx1d=>?_) (λhx1 hx1d=>?_)
 ·
  refine Ae 31 ?_
  exact Fw (.bool false) (congrArg AV.bool (As (by rintro⟨g1,g2,g3⟩;first|omega|(have:=(g3 0 (by omega)).1;omega)|(have:=(g3 (l.length-1) (by omega)).2.1;omega)|(have:=(g3 (1+k) (by omega)).2.2 (by omega);rw[Nat.add_sub_cancel_left] at this;omega))).symm)
 ·
  refine Ae 5 ?_
  refine Ft 17 ((16:Int)<(l.length:Int)) (λhx2 hx2d=>?_) (λhx2 hx2d=>?_)
  ·
   refine Ae 26 ?_
   exact Fw (.bool false) (congrArg AV.bool (As (by rintro⟨g1,g2,g3⟩;first|omega|(have:=(g3 0 (by omega)).1;omega)|(have:=(g3 (l.length-1) (by omega)).2.1;omega)|(have:=(g3 (1+k) (by omega)).2.2 (by omega);rw[Nat.add_sub_cancel_left] at this;omega))).symm)
  ·
   refine Ae 1 ?_
   refine Gn 0 l.length ?_
   refine Ae 5 ?_
   refine Ft 24 ((l).getD 0 0<0) (λhx3 hx3d=>?_) (λhx3 hx3d=>?_)
   ·
    refine Ae 19 ?_
    exact Fw (.bool false) (congrArg AV.bool (As (by rintro⟨g1,g2,g3⟩;first|omega|(have:=(g3 0 (by omega)).1;omega)|(have:=(g3 (l.length-1) (by omega)).2.1;omega)|(have:=(g3 (1+k) (by omega)).2.2 (by omega);rw[Nat.add_sub_cancel_left] at this;omega))).symm)
   ·
    refine Ae 3 ?_
    refine Fr ((l.length:Int)-1) ((l.length-1:Nat):Int) ?_
    refine Gn (l.length-1) l.length ?_
    refine Ae 6 ?_
    refine Ft 33 (M<(l).getD (l.length-1) 0) (λhx4 hx4d=>?_) (λhx4 hx4d=>?_)
    ·
     refine Ae 8 ?_
     exact Fw (.bool false) (congrArg AV.bool (As (by rintro⟨g1,g2,g3⟩;first|omega|(have:=(g3 0 (by omega)).1;omega)|(have:=(g3 (l.length-1) (by omega)).2.1;omega)|(have:=(g3 (1+k) (by omega)).2.2 (by omega);rw[Nat.add_sub_cancel_left] at this;omega))).symm)
    ·
     refine Ae 7 ?_
     refine Ce (.sl 1 (l.length-1) (λxi=>(λi0=> .int ((l).getD i0 0)) (1+xi))) .none (kG 23 (.tmp 34) (some (.const (.int .i64 1))) none (by kernel_rfl) underlying23 1 l.length sizeOf3 (λi0=> .int ((l).getD i0 0)) (by kernel_rfl) 1 l.length (.inr ⟨(.const (.int .i64 1)),1,rfl,by kernel_rfl,by omega⟩) (.inl ⟨rfl,rfl⟩) (by omega) (by omega)) ?_
     refine Ae 5 ?_
     refine Mf [0,35,36,37] (l.length-1) (λk=>∀q,q<k->l.getD q 0<l.getD (1+q) 0) (λk=>⟨[(0,Dg l),(35,.sl 1 (l.length-1) (λxi=>(λi0=> .int ((l).getD i0 0)) (1+xi))),(36,.int ((l.length-1:Nat):Int)),(37,.int (k:Int))],[],0,49⟩) (λq hq=>absurd hq (Nat.not_lt_zero q)) (λk hkn hFk J1 hJ1=>?_)
     refine Ae 6 ?_
     refine Ft 38 ((k:Int)<((l.length-1:Nat):Int)) (λhx5 hx5d=>?_) (λhx5 hx5d=>?_)
     ·
      refine Ae 8 ?_
      refine Gn k (l.length-1) ?_
      refine Ae 10 ?_
      refine Gn k l.length ?_
      refine Ae 4 ?_
      refine Ft 47 ((l).getD (1+k) 0<=(l).getD k 0) (λhx6 hx6d=>?_) (λhx6 hx6d=>?_)
      ·
       refine Ae 12 ?_
       exact Fw (.bool false) (congrArg AV.bool (As (by rintro⟨g1,g2,g3⟩;first|omega|(have:=(g3 0 (by omega)).1;omega)|(have:=(g3 (l.length-1) (by omega)).2.1;omega)|(have:=(g3 (1+k) (by omega)).2.2 (by omega);rw[Nat.add_sub_cancel_left] at this;omega))).symm)
      ·
       refine Ae 5 ?_
       refine Fr ((k:Int)+1) ((k+1:Nat):Int) ?_
       refine Ae 2 ?_
       exact Om [0,35,36,37] (hJ1 (by omega) (λq hq=>(Nat.lt_or_ge q k).elim (λg=>hFk q g) λg=>by have e:q=k:=(by omega);subst e;omega))
     ·
      refine Ae 12 ?_
      exact Fw (.bool true) (congrArg AV.bool (Dw (Ad9 (by omega) (by omega) (by omega) (by omega) (λi hi=>hFk i (by omega)))).symm)
theorem Yb (l:List Int) (M:Int) (hl:l.length<=1000000):AF Tryz.prog 36 [Dg l,.int M] (.bool (bP (Of l M))):=by
 refine Cq func36 rfl λB D0 hA0=>?_
 refine Ae 12 ?_
 refine Mf [0,1,5] l.length (λi=>∀q,q<i->0<=l.getD q 0/\l.getD q 0<=M/\(0<q->l.getD (q-1) 0<l.getD q 0)) (λi=>⟨[(0,Dg l),(1,.int M),(5,.int (i:Int))],[],0,49⟩) (λq hq=>absurd hq (Nat.not_lt_zero q)) (λi hin hFi J1 hJ1=>?_)
 refine Ae 9 ?_
 refine Ft 9 ((i:Int)<(l.length:Int)) (λhx1 hx1d=>?_) (λhx1 hx1d=>?_)
 ·
  refine Ae 6 ?_
  refine vsp ((l).getD i 0<0) (λhx2 hx2d=>?_) (λhx2 hx2d=>?_)
  ·
   refine Kq [(2,Fv (Dg l) i,.none),(4,.bool true,.none)] [0,1,5,40] ⟨Ox i l.length,lJ hx2,trivial⟩ ?_
   refine Ae 13 ?_
   exact Fw (.bool false) (congrArg AV.bool ((As (by rintro⟨g1,g2,g3⟩;first|omega|(have:=(g3 i (by omega)).1;omega)|(have:=(g3 i (by omega)).2.1;omega)|(have:=(g3 i (by omega)).2.2 (by omega);omega))).symm))
  ·
   refine vsp (M<(l).getD i 0) (λhx3 hx3d=>?_) (λhx3 hx3d=>?_)
   ·
    refine Kq [(2,Fv (Dg l) i,.none),(4,.bool false,.none),(8,Fv (Dg l) i,.none),(11,.bool true,.none)] [0,1,5,40] ⟨Ox i l.length,lJ hx2,Ox i l.length,lJ hx3,trivial⟩ ?_
    refine Ae 13 ?_
    exact Fw (.bool false) (congrArg AV.bool ((As (by rintro⟨g1,g2,g3⟩;first|omega|(have:=(g3 i (by omega)).1;omega)|(have:=(g3 i (by omega)).2.1;omega)|(have:=(g3 i (by omega)).2.2 (by omega);omega))).symm))
   ·
    refine vsp ((0:Int)<(i:Int)) (λhx4 hx4d=>?_) (λhx4 hx4d=>?_)
    ·
     refine Kq [(2,Fv (Dg l) i,.none),(4,.bool false,.none),(8,Fv (Dg l) i,.none),(11,.bool false,.none),(15,.bool true,.none),(19,Fv (Dg l) i,.none),(23,.int ((i-1:Nat):Int),.none),(24,Fv (Dg l) (i-1),.none)] [0,1,5,40] ⟨Ox i l.length,lJ hx2,Ox i l.length,lJ hx3,lJ hx4,Ox i l.length,Av (Cn (v:= .int .i64 (IntKind.wrap .i64 ((i:Int)-1))) (v':= .int .i64 ((i-1:Nat):Int)) _ (by kernel_rfl) rfl (by kernel_rfl) (λw=>by kernel_rfl) (congrArg (Value.int .i64) ((IntWalk.i64_in _ (by omega)).trans (by omega)))),Ox (i-1) l.length,trivial⟩ ?_
     refine Ae 1 ?_
     refine Ft 40 ((l).getD i 0<=(l).getD (i-1) 0) (λhx5 hx5d=>?_) (λhx5 hx5d=>?_)
     ·
      refine Ae 12 ?_
      exact Fw (.bool false) (congrArg AV.bool ((As (by rintro⟨g1,g2,g3⟩;first|omega|(have:=(g3 i (by omega)).1;omega)|(have:=(g3 i (by omega)).2.1;omega)|(have:=(g3 i (by omega)).2.2 (by omega);omega))).symm))
     ·
      refine Ae 6 ?_
      refine Fr ((i:Int)+1) ((i+1:Nat):Int) ?_
      refine Ae 2 ?_
      exact Om [0,1,5] (hJ1 (by omega) (λq hq=>(Nat.lt_or_ge q i).elim (λg=>hFi q g) λg=>by have e:q=i:=(by omega);subst e;exact⟨by omega,by omega,λh0=>by omega⟩))
    ·
     refine Kq [(2,Fv (Dg l) i,.none),(4,.bool false,.none),(8,Fv (Dg l) i,.none),(11,.bool false,.none),(15,.bool false,.none)] [0,1,5,40] ⟨Ox i l.length,lJ hx2,Ox i l.length,lJ hx3,lJ hx4,trivial⟩ ?_
     refine Ae 7 ?_
     refine Fr ((i:Int)+1) ((i+1:Nat):Int) ?_
     refine Ae 2 ?_
     exact Om [0,1,5] (hJ1 (by omega) (λq hq=>(Nat.lt_or_ge q i).elim (λg=>hFi q g) λg=>by have e:q=i:=(by omega);subst e;exact⟨by omega,by omega,λh0=>by omega⟩))
 ·
  refine Ae 12 ?_
  refine Ft 44 ((1:Int)<=(l.length:Int)) (λhx6 hx6d=>?_) (λhx6 hx6d=>?_)
  ·
   refine Ae 8 ?_
   exact Fw (.bool (decide ((l.length:Int)<=16))) (congrArg AV.bool (if hz:(l.length:Int)<=16 then (decide_eq_true hz).trans (Dw ⟨by omega,by omega,λq hq=>hFi q (by omega)⟩).symm else (decide_eq_false hz).trans ((As (by rintro⟨g1,g2,g3⟩;first|omega|(have:=(g3 i (by omega)).1;omega)|(have:=(g3 i (by omega)).2.1;omega)|(have:=(g3 i (by omega)).2.2 (by omega);omega))).symm)))
  ·
   refine Ae 8 ?_
   exact Fw (.bool false) (congrArg AV.bool ((As (by rintro⟨g1,g2,g3⟩;first|omega|(have:=(g3 i (by omega)).1;omega)|(have:=(g3 i (by omega)).2.1;omega)|(have:=(g3 i (by omega)).2.2 (by omega);omega))).symm))
theorem dU (r:Rv) (hr:aO r):AF Tryz.prog 11 [Hg r] (.bool (bP (Ng r))):=by
 have h1:=hr.n
 have h2:=hr.w
 have h3:=hr.s
 refine Cq func11 rfl λB D0 hA0=>?_
 refine Ae 14 ?_
 refine Ft 9 ((r.homes.length:Int)<1) (λhx1 hx1d=>?_) (λhx1 hx1d=>?_)
 ·
  refine Ae 31 ?_
  exact Fw (.bool false) (congrArg AV.bool (As (by rintro⟨⟨g5,g6,g7,g8,g9⟩,g2,g3,g4⟩;first|omega|(have:=(g2 i (by omega)).2 j (by omega);omega))).symm)
 ·
  refine Ae 6 ?_
  refine Ft 15 ((8:Int)<(r.homes.length:Int)) (λhx2 hx2d=>?_) (λhx2 hx2d=>?_)
  ·
   refine Ae 25 ?_
   exact Fw (.bool false) (congrArg AV.bool (As (by rintro⟨⟨g5,g6,g7,g8,g9⟩,g2,g3,g4⟩;first|omega|(have:=(g2 i (by omega)).2 j (by omega);omega))).symm)
  ·
   refine Ae 5 ?_
   refine Ft 20 (r.flight<4) (λhx3 hx3d=>?_) (λhx3 hx3d=>?_)
   ·
    refine Ae 20 ?_
    exact Fw (.bool false) (congrArg AV.bool (As (by rintro⟨⟨g5,g6,g7,g8,g9⟩,g2,g3,g4⟩;first|omega|(have:=(g2 i (by omega)).2 j (by omega);omega))).symm)
   ·
    refine Ae 5 ?_
    refine Ft 25 ((3600000:Int)<r.flight) (λhx4 hx4d=>?_) (λhx4 hx4d=>?_)
    ·
     refine Ae 15 ?_
     exact Fw (.bool false) (congrArg AV.bool (As (by rintro⟨⟨g5,g6,g7,g8,g9⟩,g2,g3,g4⟩;first|omega|(have:=(g2 i (by omega)).2 j (by omega);omega))).symm)
    ·
     refine Ae 2 ?_
     refine Nd (.int .i64 (Int.tmod r.flight 4)) (.int .i64 (tm4 r.flight)) ?_ rfl
     refine Ae 4 ?_
     refine AeY 30 (tm4 r.flight=0) (λhx5 hx5d=>?_) (λhx5 hx5d=>?_)
     ·
      refine Ae 13 ?_
      refine Mf [1,32,33,34] r.homes.length (λi=>∀q,q<i->Eb 1048576 [(r.homes.getD q V3.zero).x,(r.homes.getD q V3.zero).y,(r.homes.getD q V3.zero).z]=true/\∀j,j<q->¬((r.homes.getD j V3.zero).x=(r.homes.getD q V3.zero).x/\(r.homes.getD j V3.zero).y=(r.homes.getD q V3.zero).y/\(r.homes.getD j V3.zero).z=(r.homes.getD q V3.zero).z)) (λi=>⟨[(1,.ptr 0 0),(32,Pn r.homes),(33,.int (r.homes.length:Int)),(34,.int (i:Int))],[(0,.box 25 [Pn r.homes,.int r.flight,Dg r.waits,Dg r.rises])],1,59⟩) (λq hq=>absurd hq (Nat.not_lt_zero q)) (λi hin hFi J1 hJ1=>?_)
      refine Ae 6 ?_
      refine Ft 35 ((i:Int)<(r.homes.length:Int)) (λhx6 hx6d=>?_) (λhx6 hx6d=>?_)
      ·
       refine Ae 8 ?_
       refine Gn i r.homes.length ?_
       refine Ae 7 ?_
       refine Dx (Eb 1048576 [(r.homes.getD i V3.zero).x,(r.homes.getD i V3.zero).y,(r.homes.getD i V3.zero).z]) (λhx7=>?_) (λhx7=>?_)
       ·
        refine Kq [(1,.bool true,.none),(7,.slc 3 i (λi0=>Hf (r.homes.getD i0 V3.zero)),.none),(9,_,.none)] [1,32,33,34,49] ⟨kbC hx7 (Hw (Uy (r.homes.getD i V3.zero))),Av (Tt 22 (.tmp 44) (.tmp 45) (by kernel_rfl) underlying22 3 r.homes.length sizeOf36 (λi0=>Hf (r.homes.getD i0 V3.zero)) (by kernel_rfl) i (i:Int) (by kernel_rfl) (by omega) (by omega)),Hw (iD r.homes i (r.homes.getD i V3.zero) (by omega)),trivial⟩ ?_
        refine Ae 1 ?_
        refine qN 49 (bP (∃q,q<i/\(r.homes.getD q V3.zero).x=(r.homes.getD i V3.zero).x/\(r.homes.getD q V3.zero).y=(r.homes.getD i V3.zero).y/\(r.homes.getD q V3.zero).z=(r.homes.getD i V3.zero).z)) (λhx8=>?_) (λhx8=>?_)
        ·
         refine Ae 12 ?_
         exact Fw (.bool false) (congrArg AV.bool (As (by rintro⟨⟨g5,g6,g7,g8,g9⟩,g2,g3,g4⟩;first|omega|(obtain⟨q,hq,hc⟩:=Dv hx8;exact(g2 i (by omega)).2 q hq hc)|(have:=(g2 i (by omega)).2 j (by omega);omega))).symm)
        ·
         refine Ae 5 ?_
         refine Fr ((i:Int)+1) ((i+1:Nat):Int) ?_
         refine Ae 2 ?_
         exact Hu [1,32,33,34] [(0,0)] 1 0 hA0 [] trivial (hJ1 (by omega) (λq hq=>(Nat.lt_or_ge q i).elim (λg=>hFi q g) λg=>by have e:q=i:=(by omega);subst e;exact⟨hx7,λj hj hc=>Qc hx8 ⟨j,hj,hc⟩⟩))
       ·
        refine Kq [(1,.bool false,.none)] [1,32,33,34,49] ⟨kbC hx7 (Hw (Uy (r.homes.getD i V3.zero))),trivial⟩ ?_
        refine Ae 13 ?_
        exact Fw (.bool false) (congrArg AV.bool (As (by rintro⟨⟨g5,g6,g7,g8,g9⟩,g2,g3,g4⟩;first|omega|(have g:=(g2 i (by omega)).1;rw[hx7] at g;exact Bool.noConfusion g)|(have:=(g2 i (by omega)).2 j (by omega);omega))).symm)
      ·
       refine Ae 10 ?_
       refine Cz (eT r.waits 3600000 (by omega)) ?_
       refine Ae 1 ?_
       refine qN 54 (bP (Of r.waits 3600000)) (λhx9=>?_) (λhx9=>?_)
       ·
        refine Ae 2 ?_
        refine Cz (eT r.rises 1048576 (by omega)) ?_
        refine Ae 5 ?_
        exact Fw (.bool (bP (Of r.rises 1048576))) (congrArg AV.bool (AaI ⟨λg=>⟨⟨by omega,by omega,by omega,by omega,by omega⟩,λq hq=>hFi q (by omega),Dv hx9,g⟩,λg=>g.2.2.2⟩))
       ·
        refine Ae 8 ?_
        exact Fw (.bool false) (congrArg AV.bool (As (by rintro⟨⟨g5,g6,g7,g8,g9⟩,g2,g3,g4⟩;first|omega|exact Qc hx9 g3|(have:=(g2 i (by omega)).2 j (by omega);omega))).symm)
     ·
      refine Ae 8 ?_
      exact Fw (.bool false) (congrArg AV.bool (As (by rintro⟨⟨g5,g6,g7,g8,g9⟩,g2,g3,g4⟩;first|omega|(have:=(g2 i (by omega)).2 j (by omega);omega))).symm)
theorem Od (r:Rv) (hr:aO r):AF Tryz.prog 12 [Hg r] (.bool (bP (Ng r))):=by
 have h1:=hr.n
 have h2:=hr.w
 have h3:=hr.s
 refine Cq func12 rfl λB D0 hA0=>?_
 refine Ae 13 ?_
 refine Mf [1,3] r.homes.length (λi=>∀q,q<i->Eb 1048576 [(r.homes.getD q V3.zero).x,(r.homes.getD q V3.zero).y,(r.homes.getD q V3.zero).z]=true/\∀j,j<q->¬((r.homes.getD j V3.zero).x=(r.homes.getD q V3.zero).x/\(r.homes.getD j V3.zero).y=(r.homes.getD q V3.zero).y/\(r.homes.getD j V3.zero).z=(r.homes.getD q V3.zero).z)) (λi=>⟨[(1,.ptr 0 0),(3,.int (i:Int))],[(0,.box 25 [Pn r.homes,.int r.flight,Dg r.waits,Dg r.rises])],1,71⟩) (λq hq=>absurd hq (Nat.not_lt_zero q)) (λi hin hFi J1 hJ1=>?_)
 refine Ae 10 ?_
 refine Ft 9 ((i:Int)<(r.homes.length:Int)) (λhx1 hx1d=>?_) (λhx1 hx1d=>?_)
 ·
  refine Ae 11 ?_
  refine Gn i r.homes.length ?_
  refine Ae 1 ?_
  refine Cz (Uy (r.homes.getD i V3.zero)) ?_
  refine Ae 3 ?_
  refine lG 18 (Eb 1048576 [(r.homes.getD i V3.zero).x,(r.homes.getD i V3.zero).y,(r.homes.getD i V3.zero).z]) (λhx2=>?_) (λhx2=>?_)
  ·
   refine Ae 9 ?_
   refine Mf [1,3,4] i (λj=>∀u,u<j->¬((r.homes.getD u V3.zero).x=(r.homes.getD i V3.zero).x/\(r.homes.getD u V3.zero).y=(r.homes.getD i V3.zero).y/\(r.homes.getD u V3.zero).z=(r.homes.getD i V3.zero).z)) (λj=>⟨[(1,.ptr 0 0),(3,.int (i:Int)),(4,.int (j:Int))],[(0,.box 25 [Pn r.homes,.int r.flight,Dg r.waits,Dg r.rises])],1,71⟩) (λq hq=>absurd hq (Nat.not_lt_zero q)) (λj hjn hFj J2 hJ2=>?_)
   refine Ae 8 ?_
   refine Ft 21 ((j:Int)<(i:Int)) (λhx3 hx3d=>?_) (λhx3 hx3d=>?_)
   ·
    refine Ae 6 ?_
    refine Kq [(3,Fv (Pn r.homes) j,.none),(8,Fv (Pn r.homes) i,.none),(10,.bool (decide ((r.homes.getD j V3.zero).x=(r.homes.getD i V3.zero).x/\(r.homes.getD j V3.zero).y=(r.homes.getD i V3.zero).y/\(r.homes.getD j V3.zero).z=(r.homes.getD i V3.zero).z)),.none)] [1,3,4,34] ⟨Ox j r.homes.length,Ox i r.homes.length,Av (Lx 36 36 (.tmp 28) (.tmp 33) (by kernel_rfl) _ _ (by kernel_rfl) (by kernel_rfl) (by kernel_rfl) (decide ((r.homes.getD j V3.zero).x=(r.homes.getD i V3.zero).x/\(r.homes.getD j V3.zero).y=(r.homes.getD i V3.zero).y/\(r.homes.getD j V3.zero).z=(r.homes.getD i V3.zero).z)) (Qf _ _ _ _ _ _)),trivial⟩ ?_
    refine Ae 1 ?_
    refine Ft 34 ((r.homes.getD j V3.zero).x=(r.homes.getD i V3.zero).x/\(r.homes.getD j V3.zero).y=(r.homes.getD i V3.zero).y/\(r.homes.getD j V3.zero).z=(r.homes.getD i V3.zero).z) (λhx4 hx4d=>?_) (λhx4 hx4d=>?_)
    ·
     refine Ae 16 ?_
     exact Fw (.bool false) (congrArg AV.bool (As (by rintro⟨⟨g5,g6,g7,g8,g9⟩,g2,g3,g4⟩;first|omega|(have:=(g2 i (by omega)).2 j (by omega);omega))).symm)
    ·
     refine Ae 6 ?_
     refine Fr ((j:Int)+1) ((j+1:Nat):Int) ?_
     refine Ae 2 ?_
     exact Om [1,3,4] (hJ2 (by omega) (λu hr=>(Nat.lt_or_ge u j).elim (λg=>hFj u g) λg=>by have e:u=j:=(by omega);subst e;omega))
   ·
    refine Ae 9 ?_
    refine Fr ((i:Int)+1) ((i+1:Nat):Int) ?_
    refine Ae 2 ?_
    exact Om [1,3] (hJ1 (by omega) (λq hq=>(Nat.lt_or_ge q i).elim (λg=>hFi q g) λg=>by have e:q=i:=(by omega);subst e;exact⟨hx2,λj2 hj=>hFj j2 (by omega)⟩))
  ·
   refine Ae 13 ?_
   exact Fw (.bool false) (congrArg AV.bool (As (by rintro⟨⟨g5,g6,g7,g8,g9⟩,g2,g3,g4⟩;first|omega|(have g:=(g2 i (by omega)).1;rw[hx2] at g;exact Bool.noConfusion g)|(have:=(g2 i (by omega)).2 j (by omega);omega))).symm)
 ·
  refine Ae 13 ?_
  refine Ft 39 ((1:Int)<=(r.homes.length:Int)) (λhx5 hx5d=>?_) (λhx5 hx5d=>?_)
  ·
   refine Ae 6 ?_
   refine Ft 45 ((r.homes.length:Int)<=8) (λhx6 hx6d=>?_) (λhx6 hx6d=>?_)
   ·
    refine Ae 5 ?_
    refine Ft 50 ((4:Int)<=r.flight) (λhx7 hx7d=>?_) (λhx7 hx7d=>?_)
    ·
     refine Ae 5 ?_
     refine Ft 55 (r.flight<=3600000) (λhx8 hx8d=>?_) (λhx8 hx8d=>?_)
     ·
      refine Ae 2 ?_
      refine Nd (.int .i64 (Int.tmod r.flight 4)) (.int .i64 (tm4 r.flight)) ?_ rfl
      refine Ae 3 ?_
      refine Ft 61 (tm4 r.flight=0) (λhx9 hx9d=>?_) (λhx9 hx9d=>?_)
      ·
       refine Ae 2 ?_
       refine Cz (Yb r.waits 3600000 (by omega)) ?_
       refine Ae 2 ?_
       refine qN 66 (bP (Of r.waits 3600000)) (λhx10=>?_) (λhx10=>?_)
       ·
        refine Ae 2 ?_
        refine Cz (Yb r.rises 1048576 (by omega)) ?_
        refine Ae 5 ?_
        exact Fw (.bool (bP (Of r.rises 1048576))) (congrArg AV.bool (AaI ⟨λg=>⟨⟨by omega,by omega,by omega,by omega,by omega⟩,λq hq=>hFi q (by omega),Dv hx10,g⟩,λg=>g.2.2.2⟩))
       ·
        refine Ae 8 ?_
        exact Fw (.bool false) (congrArg AV.bool (As (by rintro⟨⟨g5,g6,g7,g8,g9⟩,g2,g3,g4⟩;first|omega|exact Qc hx10 g3|(have:=(g2 i (by omega)).2 j (by omega);omega))).symm)
      ·
       refine Ae 13 ?_
       exact Fw (.bool false) (congrArg AV.bool (As (by rintro⟨⟨g5,g6,g7,g8,g9⟩,g2,g3,g4⟩;first|omega|(have:=(g2 i (by omega)).2 j (by omega);omega))).symm)
     ·
      refine Ae 19 ?_
      exact Fw (.bool false) (congrArg AV.bool (As (by rintro⟨⟨g5,g6,g7,g8,g9⟩,g2,g3,g4⟩;first|omega|(have:=(g2 i (by omega)).2 j (by omega);omega))).symm)
    ·
     refine Ae 24 ?_
     exact Fw (.bool false) (congrArg AV.bool (As (by rintro⟨⟨g5,g6,g7,g8,g9⟩,g2,g3,g4⟩;first|omega|(have:=(g2 i (by omega)).2 j (by omega);omega))).symm)
   ·
    refine Ae 29 ?_
    exact Fw (.bool false) (congrArg AV.bool (As (by rintro⟨⟨g5,g6,g7,g8,g9⟩,g2,g3,g4⟩;first|omega|(have:=(g2 i (by omega)).2 j (by omega);omega))).symm)
  ·
   refine Ae 35 ?_
   exact Fw (.bool false) (congrArg AV.bool (As (by rintro⟨⟨g5,g6,g7,g8,g9⟩,g2,g3,g4⟩;first|omega|(have:=(g2 i (by omega)).2 j (by omega);omega))).symm)
abbrev eJ (v:V3):Value:= .agg #[.int .i64 v.x,.int .i64 v.y,.int .i64 v.z]
def eG (p:Pr) (r:Rv) (c:Cs) (w:Int):AV:=
 if Gc p c (Em p r c w)<p.acts.length then .lit (.tuple #[.int .i64 (Bj p c+w),.int .i64 (Bj p c+w+r.flight),.int .i64 (Gc p c (Em p r c w):Int),.int .i64 (Bn p.acts (Gc p c (Em p r c w)+1)),eJ (Ko p c (Gc p c (Em p r c w)))])
 else .lit (.tuple #[.int .i64 (Bj p c+w),.int .i64 (Bj p c+w+r.flight),.int .i64 (-1),.int .i64 (Bn p.acts p.acts.length),.agg #[.int .i64 0,.int .i64 0,.int .i64 0]])
theorem AbO {p:Pr} {r:Rv} {c:Cs} {w:Int} {i:Nat} (hi:i<p.acts.length) (h1:c.act.toNat+1<=i) (h3:∀q,c.act.toNat+1<=q->q<i->Bn p.acts (q+1)<Em p r c w) (h4:Em p r c w<=Bn p.acts (i+1)):eG p r c w= .lit (.tuple #[.int .i64 (Bj p c+w),.int .i64 (Bj p c+w+r.flight),.int .i64 (i:Int),.int .i64 (Bn p.acts (i+1)),eJ (Ko p c i)]):=by
 have e:=Zz (p:=p) (c:=c) h1 (by omega) h3 (.inr h4)
 rw[eG,e,if_pos hi]
theorem Ad7 {p:Pr} {r:Rv} {c:Cs} {w:Int} (h1:c.act.toNat+1<=p.acts.length) (h3:∀q,c.act.toNat+1<=q->q<p.acts.length->Bn p.acts (q+1)<Em p r c w):eG p r c w= .lit (.tuple #[.int .i64 (Bj p c+w),.int .i64 (Bj p c+w+r.flight),.int .i64 (-1),.int .i64 (Bn p.acts p.acts.length),.agg #[.int .i64 0,.int .i64 0,.int .i64 0]]):=by
 have e:=Zz (p:=p) (c:=c) h1 (Nat.le_refl _) h3 (.inl rfl)
 rw[eG,e,if_neg (Nat.lt_irrefl _)]
def sQ (p:Pr) (r:Rv) (c:Cs) (w:Int):AV:=
 if Gc p c (Em p r c w)<p.acts.length then .lit (.tuple #[.int .i64 (Gc p c (Em p r c w):Int),eJ (Ko p c (Gc p c (Em p r c w)))])
 else .lit (.tuple #[.int .i64 (-1),.agg #[.int .i64 0,.int .i64 0,.int .i64 0]])
theorem AbP {p:Pr} {r:Rv} {c:Cs} {w:Int} {i:Nat} (hi:i<p.acts.length) (h1:c.act.toNat+1<=i) (h3:∀q,c.act.toNat+1<=q->q<i->Bn p.acts (q+1)<Em p r c w) (h4:Em p r c w<=Bn p.acts (i+1)):sQ p r c w= .lit (.tuple #[.int .i64 (i:Int),eJ (Ko p c i)]):=by
 have e:=Zz (p:=p) (c:=c) h1 (by omega) h3 (.inr h4)
 rw[sQ,e,if_pos hi]
theorem Ad8 {p:Pr} {r:Rv} {c:Cs} {w:Int} (h1:c.act.toNat+1<=p.acts.length) (h3:∀q,c.act.toNat+1<=q->q<p.acts.length->Bn p.acts (q+1)<Em p r c w):sQ p r c w= .lit (.tuple #[.int .i64 (-1),.agg #[.int .i64 0,.int .i64 0,.int .i64 0]]):=by
 have e:=Zz (p:=p) (c:=c) h1 (Nat.le_refl _) h3 (.inl rfl)
 rw[sQ,e,if_neg (Nat.lt_irrefl _)]
theorem Oo (p:Pr) (r:Rv) (c:Cs) (w:Int) (hp:Km p) (hc:Fx p c) (hcs:Qa c) (hr:Ng r) (hw:0<=w/\w<=3600000):AF Tryz.prog 39 [Ey p,Hg r,Hv c,.int w] (eG p r c w):=by
 have ho:=Kl hc.1
 have hv1:=hc.2.1
 have hv2:=hc.2.2.1
 have hv3:=hc.2.2.2.1
 have hv4:=hc.2.2.2.2
 have hac:=ho.acts
 have hfl:=hr.1
 have he:=ho.ends (c.act.toNat+1) (by omega)
 have hce:Bj p c=Bn p.acts (c.act.toNat+1):=rfl
 have har:Em p r c w=Bj p c+w+r.flight:=rfl
 refine Cq func39 rfl λB D0 hA0=>?_
 refine Ae 17 ?_
 refine Cz (qP p c hp hcs hc) ?_
 refine Ae 10 ?_
 refine Fr (Bj p c+w) (Bj p c+w) ?_
 refine Ae 8 ?_
 refine Fr (Bj p c+w+r.flight) (Bj p c+w+r.flight) ?_
 refine Ae 8 ?_
 refine Fr (Bj p c+w-w) (Bn p.acts (c.act.toNat+1)) ?_
 refine Ae 11 ?_
 refine Fr (c.act+1) ((c.act.toNat+1:Nat):Int) ?_
 refine Ae 4 ?_
 refine Mf [4,6,8,9,10,11,12,13] (p.acts.length-(c.act.toNat+1)) (λk=>∀q,c.act.toNat+1<=q->q<c.act.toNat+1+k->Bn p.acts (q+1)<Em p r c w) (λk=>⟨[(4,.ptr 0 0),(6,.ptr 2 0),(8,.int (Bj p c+w)),(9,.int (Bj p c+w+r.flight)),(10,.int (-1)),(11,.int (Bn p.acts (c.act.toNat+1+k))),(12,.ptr 3 0),(13,.int ((c.act.toNat+1+k:Nat):Int))],[(0,.box 31 [Ga p.names,Ik p.homes,Ha p.acts]),(1,.box 25 [Pn r.homes,.int r.flight,Dg r.waits,Dg r.rises]),(2,.box 33 [.int c.craft,.int c.act]),(3,.box 36 [.int 0,.int 0,.int 0])],4,68⟩) (λq h1 h2=>absurd h2 (by omega)) (λk hkn hFk J1 hJ1=>?_)
 refine Ae 10 ?_
 refine Ft 37 (((c.act.toNat+1+k:Nat):Int)<(p.acts.length:Int)) (λhx1 hx1d=>?_) (λhx1 hx1d=>?_)
 ·
  refine Ae 5 ?_
  have he2:=ho.ends (c.act.toNat+1+k) (by omega)
  have hl:=getD_in hp.lens (c.act.toNat+1+k)
  have hmv:=ho.mv (c.act.toNat+1+k) (by omega)
  refine Ae 6 ?_
  refine Gn (c.act.toNat+1+k) p.acts.length ?_
  refine Ae 2 ?_
  refine Nd (.int .i64 (IntKind.wrap .i64 (Bn p.acts (c.act.toNat+1+k)+(p.acts.getD (c.act.toNat+1+k) Ac.none).len))) (.int .i64 (Bn p.acts (c.act.toNat+1+(k+1)))) ?_ (congrArg (Value.int .i64) ((IntWalk.i64_in _ (by have he3:=ho.ends ((c.act.toNat+1+k)+1) (by omega);rw[Bn] at he3;omega)).trans rfl))
  refine Ae 10 ?_
  refine Ft 50 (Bj p c+w+r.flight<=Bn p.acts (c.act.toNat+1+(k+1))) (λhx2 hx2d=>?_) (λhx2 hx2d=>?_)
  ·
   refine Ae 2 ?_
   refine Kq [(4,Fv (Ha p.acts) (c.act.toNat+1+k),.none),(9,Fv (Ab8 ((p.acts.getD (c.act.toNat+1+k) Ac.none).moves)) (c.craft).toNat,.none)] [8,9,10,11,12] ⟨Ox (c.act.toNat+1+k) p.acts.length,Ae6 c.craft (c.craft).toNat ((p.acts.getD (c.act.toNat+1+k) Ac.none).moves.length),trivial⟩ ?_
   refine Ae 8 ?_
   refine Kq [] [8,9,10,11,12] trivial ?_
   refine Ae 3 ?_
   exact Fw (.lit (.tuple #[.int .i64 (Bj p c+w),.int .i64 (Bj p c+w+r.flight),.int .i64 ((c.act.toNat+1+k:Nat):Int),.int .i64 (Bn p.acts (c.act.toNat+1+(k+1))),.agg #[.int .i64 (((p.acts.getD (c.act.toNat+1+k) Ac.none).moves.getD ((c.craft).toNat) Mv.none).to.x),.int .i64 (((p.acts.getD (c.act.toNat+1+k) Ac.none).moves.getD ((c.craft).toNat) Mv.none).to.y),.int .i64 (((p.acts.getD (c.act.toNat+1+k) Ac.none).moves.getD ((c.craft).toNat) Mv.none).to.z)]])) (AbO (i:=c.act.toNat+1+k) (by omega) (by omega) hFk (by first|omega|(show _<=Bn p.acts (c.act.toNat+1+(k+1));omega))).symm
  ·
   refine Ae 6 ?_
   refine Fr (((c.act.toNat+1+k:Nat):Int)+1) ((c.act.toNat+1+k+1:Nat):Int) ?_
   refine Ae 2 ?_
   exact Om [4,6,8,9,10,11,12,13] (hJ1 (by omega) (λq h1 h2=>(Nat.lt_or_ge q (c.act.toNat+1+k)).elim (λg=>hFk q h1 g) λg=>by have e:q=c.act.toNat+1+k:=(by omega);subst e;first|omega|(show Bn p.acts (c.act.toNat+1+(k+1))<_;omega)))
 ·
  refine Ae 7 ?_
  refine Kq [] [8,9,10,11,12] trivial ?_
  refine Ae 3 ?_
  exact Fw (.lit (.tuple #[.int .i64 (Bj p c+w),.int .i64 (Bj p c+w+r.flight),.int .i64 (-1),.int .i64 (Bn p.acts (c.act.toNat+1+k)),.agg #[.int .i64 0,.int .i64 0,.int .i64 0]])) ((Ad7 (by omega) (λq h1 h2=>hFk q h1 (by omega))).trans (congrArg (λq=>AV.lit (.tuple #[.int .i64 (Bj p c+w),.int .i64 (Bj p c+w+r.flight),.int .i64 (-1),.int .i64 (Bn p.acts q),.agg #[.int .i64 0,.int .i64 0,.int .i64 0]])) (show p.acts.length=c.act.toNat+1+k by omega))).symm
theorem Yc (p:Pr) (r:Rv) (c:Cs) (w:Int) (hp:Km p) (hc:Fx p c) (hr:Ng r) (hw:0<=w/\w<=3600000):AF Tryz.prog 17 [Ey p,Hg r,Hv c,.int w] (sQ p r c w):=by
 have ho:=Kl hc.1
 have hv1:=hc.2.1
 have hv2:=hc.2.2.1
 have hv3:=hc.2.2.2.1
 have hv4:=hc.2.2.2.2
 have hac:=ho.acts
 have hfl:=hr.1
 have he:=ho.ends (c.act.toNat+1) (by omega)
 have hce:Bj p c=Bn p.acts (c.act.toNat+1):=rfl
 have har:Em p r c w=Bj p c+w+r.flight:=rfl
 refine Cq func17 rfl λB D0 hA0=>?_
 refine Ae 14 ?_
 refine Fr (c.act+1) ((c.act.toNat+1:Nat):Int) ?_
 refine Ae 4 ?_
 refine Mf [3,4,5,6,9,10] (p.acts.length-(c.act.toNat+1)) (λk=>∀q,c.act.toNat+1<=q->q<c.act.toNat+1+k->Bn p.acts (q+1)<Em p r c w) (λk=>⟨[(3,.int w),(4,.ptr 0 0),(5,.ptr 1 0),(6,.ptr 2 0),(9,.ptr 3 0),(10,.int ((c.act.toNat+1+k:Nat):Int))],[(0,.box 31 [Ga p.names,Ik p.homes,Ha p.acts]),(1,.box 25 [Pn r.homes,.int r.flight,Dg r.waits,Dg r.rises]),(2,.box 33 [.int c.craft,.int c.act]),(3,.box 36 [.int 0,.int 0,.int 0])],4,47⟩) (λq h1 h2=>absurd h2 (by omega)) (λk hkn hFk J1 hJ1=>?_)
 refine Ae 10 ?_
 refine Ft 18 (((c.act.toNat+1+k:Nat):Int)<(p.acts.length:Int)) (λhx1 hx1d=>?_) (λhx1 hx1d=>?_)
 ·
  refine Ae 5 ?_
  have he2:=ho.ends ((c.act.toNat+1+k)+1) (by omega)
  have hmv:=ho.mv (c.act.toNat+1+k) (by omega)
  refine Ae 1 ?_
  refine Kq [(2,_,.none),(6,_,.none),(8,.int (Bj p c+w),.none),(11,.int (Bj p c+w+r.flight),.none)] [3,4,5,6,9,10,33] ⟨Hw (lW p hp ho (c.act.toNat+1+k) (by omega)),Hw (by have:=lW p hp ho c.act.toNat (by omega);rwa [show (c.act.toNat:Int)=c.act by omega] at this),Av (Cn (v:= .int .i64 (IntKind.wrap .i64 (Bj p c+w))) (v':= .int .i64 (Bj p c+w)) _ (by kernel_rfl) rfl (by kernel_rfl) (λw=>by kernel_rfl) (congrArg (Value.int .i64) ((IntWalk.i64_in _ (by omega)).trans (by omega)))),Av (Cn (v:= .int .i64 (IntKind.wrap .i64 (Bj p c+w+r.flight))) (v':= .int .i64 (Bj p c+w+r.flight)) _ (by kernel_rfl) rfl (by kernel_rfl) (λw=>by kernel_rfl) (congrArg (Value.int .i64) ((IntWalk.i64_in _ (by omega)).trans (by omega)))),trivial⟩ ?_
  refine Ae 1 ?_
  refine Ft 33 (Bj p c+w+r.flight<=Bn p.acts ((c.act.toNat+1+k)+1)) (λhx2 hx2d=>?_) (λhx2 hx2d=>?_)
  ·
   refine Ae 2 ?_
   refine Kq [(4,Fv (Ha p.acts) (c.act.toNat+1+k),.none),(9,Fv (Ab8 ((p.acts.getD (c.act.toNat+1+k) Ac.none).moves)) (c.craft).toNat,.none)] [8,9] ⟨Ox (c.act.toNat+1+k) p.acts.length,Ae6 c.craft (c.craft).toNat ((p.acts.getD (c.act.toNat+1+k) Ac.none).moves.length),trivial⟩ ?_
   refine Ae 7 ?_
   exact Fw (.lit (.tuple #[.int .i64 ((c.act.toNat+1+k:Nat):Int),.agg #[.int .i64 (((p.acts.getD (c.act.toNat+1+k) Ac.none).moves.getD ((c.craft).toNat) Mv.none).to.x),.int .i64 (((p.acts.getD (c.act.toNat+1+k) Ac.none).moves.getD ((c.craft).toNat) Mv.none).to.y),.int .i64 (((p.acts.getD (c.act.toNat+1+k) Ac.none).moves.getD ((c.craft).toNat) Mv.none).to.z)]])) (AbP (i:=c.act.toNat+1+k) (by omega) (by omega) hFk (by first|omega|(show _<=Bn p.acts (c.act.toNat+1+(k+1));omega))).symm
  ·
   refine Ae 6 ?_
   refine Fr (((c.act.toNat+1+k:Nat):Int)+1) ((c.act.toNat+1+k+1:Nat):Int) ?_
   refine Ae 2 ?_
   exact Om [3,4,5,6,9,10] (hJ1 (by omega) (λq h1 h2=>(Nat.lt_or_ge q (c.act.toNat+1+k)).elim (λg=>hFk q h1 g) λg=>by have e:q=c.act.toNat+1+k:=(by omega);subst e;first|omega|(show Bn p.acts (c.act.toNat+1+(k+1))<_;omega)))
 ·
  refine Ae 14 ?_
  exact Fw (.lit (.tuple #[.int .i64 (-1),.agg #[.int .i64 0,.int .i64 0,.int .i64 0]])) (Ad8 (by omega) (λq h1 h2=>hFk q h1 (by omega))).symm
abbrev Ue (r:Rv):AV:= .elt 4 λxi=>[Pn r.homes,.int r.flight,Dg r.waits,Dg r.rises].getD (0+xi) .top
abbrev Xj (v:V3):AV:= .elt 3 λxi=>[AV.int v.x,.int v.y,.int v.z].getD (0+xi) .top
abbrev jD (r:Rv) (v:V3):AV:= .elt 1 λxi=>[AV.fn 40 [Ue r,Xj v]].getD (0+xi) .top
def Ki (a b:Int):Int:=if a<b then -1 else if b<a then 1 else 0
def orI (a b:Int):Int:=if a=0 then b else a
theorem AbY {d:Int} (h: -2097152<=d/\d<=2097152):0<=d*d/\d*d<=4398046511104:=by
 rcases Int.le_total 0 d with g|g
 have h1:=Int.mul_nonneg g g
 have h2:=Int.mul_le_mul h.2 h.2 g (by decide)
 omega
 have e:d*d= -d* -d:=(Int.neg_mul_neg d d).symm
 have h1:=Int.mul_nonneg (Int.neg_nonneg.2 g) (Int.neg_nonneg.2 g)
 have h2:=Int.mul_le_mul (show -d<=2097152 by omega) (show -d<=2097152 by omega) (Int.neg_nonneg.2 g) (by decide)
 omega
theorem Zq (r:Rv) (v:V3) (a b:Nat):decide (orI (Ki (Tk r v a) (Tk r v b)) (Ki (a:Int) (b:Int))<0)=dS r v a b:=by
 unfold orI Ki dS
 generalize Tk r v a=x
 generalize Tk r v b=y
 by_cases h1:x<y
 simp[h1]
 by_cases h2:y<x
 simp[h1,h2]
 intro h;omega
 have e:x=y:=by omega
 by_cases h3:a<b
 simp[e,h3]
 by_cases h4:b<a
 simp[e,h3,h4]
 simp[e,h3,h4]
theorem lZ (a:Int):AF Tryz.prog 78 [.int a] (.bool false):=by
 refine Cq func78 rfl λB D0 hA0=>?_
 refine Ae 14 ?_
 exact Fw (.bool (!decide (a=a))) (congrArg AV.bool (by simp))
theorem aE (a b:Int):AF Tryz.prog 44 [.int a,.int b] (.int (Ki a b)):=by
 refine Cq func44 rfl λB D0 hA0=>?_
 refine Ae 8 ?_
 refine Cz (lZ a) ?_
 refine Ae 6 ?_
 refine Cz (lZ b) ?_
 refine Ae 29 ?_
 refine Ft 16 (a<b) (λhx1 hx1d=>?_) (λhx1 hx1d=>?_)
 ·
  refine Ae 8 ?_
  exact Fw (.int (-1)) (congrArg AV.int (by unfold Ki;(repeat' split)<;>omega))
 ·
  refine Ae 11 ?_
  refine Ft 19 (b<a) (λhx2 hx2d=>?_) (λhx2 hx2d=>?_)
  ·
   refine Ae 8 ?_
   exact Fw (.int 1) (congrArg AV.int (by unfold Ki;(repeat' split)<;>omega))
  ·
   refine Ae 9 ?_
   exact Fw (.int 0) (congrArg AV.int (by unfold Ki;(repeat' split)<;>omega))
theorem Afj (a b:Int):AF Tryz.prog 43 [.sl 1 2 λxi=>[AV.int a,.int b].getD xi .top] (.int (orI a b)):=by
 refine Cq func43 rfl λB D0 hA0=>?_
 refine Ae 19 ?_
 refine vul 2 ?_
 refine Ae 13 ?_
 refine Gn 0 2 ?_
 refine Ae 11 ?_
 refine AeY 14 (a=0) (λhx1 hx1d=>?_) (λhx1 hx1d=>?_)
 ·
  refine Ae 5 ?_
  refine Nd (.int .i64 1) (.int .i64 1) ?_
  refine Ae 16 ?_
  refine Gn 1 2 ?_
  refine Ae 11 ?_
  refine AeY 14 (b=0) (λhx2 hx2d=>?_) (λhx2 hx2d=>?_)
  ·
   refine Ae 5 ?_
   refine Nd (.int .i64 2) (.int .i64 2) ?_
   refine Ae 22 ?_
   exact Fw (.int 0) (congrArg AV.int (by unfold orI;split<;>omega))
  ·
   refine Ae 13 ?_
   exact Fw (.int b) (congrArg AV.int (by unfold orI;split<;>omega))
 ·
  refine Ae 13 ?_
  exact Fw (.int a) (congrArg AV.int (by unfold orI;split<;>omega))
theorem Aaq (r:Rv) (v:V3) (i:Nat) (hr:Ng r) (hi:i<r.homes.length) (hv:Eb 1048576 [v.x,v.y,v.z]=true):AF Tryz.prog 40 [.int (i:Int),Ue r,Xj v] (.int (Tk r v i)):=by
 have hb:=in3 (hr.2.1 i hi).1
 have hw:=in3 hv
 have hn:=hr.1
 refine Cq func40 rfl λB D0 hA0=>?_
 refine Ae 6 ?_
 refine Kq [(3,Fv (Pn r.homes) i,.none),(8,.int ((r.homes.getD i V3.zero).x-v.x),.none),(12,Fv (Pn r.homes) i,.none),(17,.int ((r.homes.getD i V3.zero).y-v.y),.none),(21,Fv (Pn r.homes) i,.none),(26,.int ((r.homes.getD i V3.zero).z-v.z),.none)] [5] ⟨Ox i r.homes.length,Av (Cn (v:= .int .i64 (IntKind.wrap .i64 ((r.homes.getD i V3.zero).x-v.x))) (v':= .int .i64 ((r.homes.getD i V3.zero).x-v.x)) _ (by kernel_rfl) rfl (by kernel_rfl) (λw=>by kernel_rfl) (congrArg (Value.int .i64) ((IntWalk.i64_in _ (by omega)).trans (by omega)))),Ox i r.homes.length,Av (Cn (v:= .int .i64 (IntKind.wrap .i64 ((r.homes.getD i V3.zero).y-v.y))) (v':= .int .i64 ((r.homes.getD i V3.zero).y-v.y)) _ (by kernel_rfl) rfl (by kernel_rfl) (λw=>by kernel_rfl) (congrArg (Value.int .i64) ((IntWalk.i64_in _ (by omega)).trans (by omega)))),Ox i r.homes.length,Av (Cn (v:= .int .i64 (IntKind.wrap .i64 ((r.homes.getD i V3.zero).z-v.z))) (v':= .int .i64 ((r.homes.getD i V3.zero).z-v.z)) _ (by kernel_rfl) rfl (by kernel_rfl) (λw=>by kernel_rfl) (congrArg (Value.int .i64) ((IntWalk.i64_in _ (by omega)).trans (by omega)))),trivial⟩ ?_
 refine Ae 1 ?_
 have hqx:=AbY (d:=(r.homes.getD i V3.zero).x-v.x) (by omega)
 have hqy:=AbY (d:=(r.homes.getD i V3.zero).y-v.y) (by omega)
 have hqz:=AbY (d:=(r.homes.getD i V3.zero).z-v.z) (by omega)
 refine Ae 6 ?_
 refine Fr (((r.homes.getD i V3.zero).x-v.x)*((r.homes.getD i V3.zero).x-v.x)) (((r.homes.getD i V3.zero).x-v.x)*((r.homes.getD i V3.zero).x-v.x)) ?_
 refine Ae 4 ?_
 refine Fr (((r.homes.getD i V3.zero).y-v.y)*((r.homes.getD i V3.zero).y-v.y)) (((r.homes.getD i V3.zero).y-v.y)*((r.homes.getD i V3.zero).y-v.y)) ?_
 refine Fr (((r.homes.getD i V3.zero).x-v.x)*((r.homes.getD i V3.zero).x-v.x)+((r.homes.getD i V3.zero).y-v.y)*((r.homes.getD i V3.zero).y-v.y)) (((r.homes.getD i V3.zero).x-v.x)*((r.homes.getD i V3.zero).x-v.x)+((r.homes.getD i V3.zero).y-v.y)*((r.homes.getD i V3.zero).y-v.y)) ?_
 refine Ae 4 ?_
 refine Fr (((r.homes.getD i V3.zero).z-v.z)*((r.homes.getD i V3.zero).z-v.z)) (((r.homes.getD i V3.zero).z-v.z)*((r.homes.getD i V3.zero).z-v.z)) ?_
 refine Fr (((r.homes.getD i V3.zero).x-v.x)*((r.homes.getD i V3.zero).x-v.x)+((r.homes.getD i V3.zero).y-v.y)*((r.homes.getD i V3.zero).y-v.y)+((r.homes.getD i V3.zero).z-v.z)*((r.homes.getD i V3.zero).z-v.z)) (((r.homes.getD i V3.zero).x-v.x)*((r.homes.getD i V3.zero).x-v.x)+((r.homes.getD i V3.zero).y-v.y)*((r.homes.getD i V3.zero).y-v.y)+((r.homes.getD i V3.zero).z-v.z)*((r.homes.getD i V3.zero).z-v.z)) ?_
 refine Ae 4 ?_
 exact Gx
theorem tN (r:Rv) (v:V3) (a b:Nat) (hr:Ng r) (ha:a<r.homes.length) (hb:b<r.homes.length) (hv:Eb 1048576 [v.x,v.y,v.z]=true):AF Tryz.prog 42 [.int (a:Int),.int (b:Int),jD r v] (.int (orI (Ki (Tk r v a) (Tk r v b)) (Ki (a:Int) (b:Int)))):=by
 refine Cq func42 rfl λB D0 hA0=>?_
 refine Ae 6 ?_
 refine Kq [(2,_,.none),(5,_,.none),(6,_,.none),(9,_,.none),(10,.osl 0 1 2,(.new 0 (.vec 3 1 2 (λxi=>[.int (Ki (Tk r v a) (Tk r v b)),.int (Ki (a:Int) (b:Int))].getD xi .top)))),(11,.int (orI (Ki (Tk r v a) (Tk r v b)) (Ki (a:Int) (b:Int))),(.read 0))] [5] ⟨AcS (Aaq r v a hr ha hv),AcS (Aaq r v b hr hb hv),Hw (aE (Tk r v a) (Tk r v b)),Hw (aE (a:Int) (b:Int)),Av (Ak 23 2 #[(0,(.tmp 12)),(1,(.tmp 15))] (by kernel_rfl) underlying23 1 sizeOf3 _ zeroValue3 (by kernel_rfl) (Nat.le_of_ble_eq_true (by kernel_rfl)) (Nat.le_of_ble_eq_true (by kernel_rfl)) (Nat.le_of_ble_eq_true (by kernel_rfl)) 0 [.int (Ki (Tk r v a) (Tk r v b)),.int (Ki (a:Int) (b:Int))] (by kernel_rfl) (λxi=>[.int (Ki (Tk r v a) (Tk r v b)),.int (Ki (a:Int) (b:Int))].getD xi .top) (by kernel_rfl)),Av (gE 43 #[.tmp 16] #[23] (by kernel_rfl) (λ_ _=>by kernel_rfl) 0 (.vec 3 1 2 (λxi=>[.int (Ki (Tk r v a) (Tk r v b)),.int (Ki (a:Int) (b:Int))].getD xi .top)) (by kernel_rfl) (λ_ _ _ _ h=>by cases h;exact(λi hi j hj=>by obtain rfl:j=0:=(by omega);exact match i,hi with|0,_=>rfl|1,_=>rfl|i+2,h=>absurd h (by omega))) [.osl 0 1 2] (by kernel_rfl) [.sl 1 2 (λxi=>[.int (Ki (Tk r v a) (Tk r v b)),.int (Ki (a:Int) (b:Int))].getD xi .top)] (by kernel_rfl) (.int .i64 (orI (Ki (Tk r v a) (Tk r v b)) (Ki (a:Int) (b:Int)))) (Afj (Ki (Tk r v a) (Tk r v b)) (Ki (a:Int) (b:Int)))),trivial⟩ ?_
 refine Ae 2 ?_
 exact Gx
theorem Jq (v:V3) (z:Int) (hv:Eb 1048576 [v.x,v.y,v.z]=true) (hz:0<=z/\z<=1048576):AF Tryz.prog 45 [Hf v,.int z] (.bool (Kj v z)):=by
 have hb:=in3 hv
 refine Cq func45 rfl λB D0 hA0=>?_
 refine Ae 11 ?_
 refine Fr (v.z+z) (v.z+z) ?_
 refine Ae 7 ?_
 refine Cz (Uy ⟨v.x,v.y,v.z+z⟩) ?_
 refine Ae 4 ?_
 exact Gx
theorem fR {lt:Nat->Nat->Bool} {l:List Nat} {j:Nat} (h0:0<j) (h:lt (l.getD j 0) (l.getD (j-1) 0)=true):Vr lt l j=Vr lt (Pj l (j-1)) (j-1):=by
 obtain⟨j',rfl⟩:∃j',j=j'+1:=⟨j-1,by omega⟩
 rw[Vr]
 simp only[Nat.add_sub_cancel] at h ⊢
 rw[if_pos h]
theorem fS {lt:Nat->Nat->Bool} {l:List Nat} {j:Nat} (h0:0<j) (h:lt (l.getD j 0) (l.getD (j-1) 0)=false):Vr lt l j=l:=by
 obtain⟨j',rfl⟩:∃j',j=j'+1:=⟨j-1,by omega⟩
 rw[Vr]
 simp only[Nat.add_sub_cancel] at h ⊢
 rw[if_neg (by rw[h];exact Bool.false_ne_true)]
theorem fT {lt:Nat->Nat->Bool} {l:List Nat} {j:Nat} (h0:¬0<j):Vr lt l j=l:=by
 obtain rfl:j=0:=by omega
 rfl
theorem wG (L:List Nat) (j x:Nat) (h0:0<j) (h:j<L.length):(if x=j-1 then AV.int ((L.getD j 0:Nat):Int) else if x=j then AV.int ((L.getD (j-1) 0:Nat):Int) else AV.int ((L.getD x 0:Nat):Int))=AV.int (((Pj L (j-1)).getD x 0:Nat):Int):=by
 rw[cX _ _ _ (by omega),show j-1+1=j by omega]
 by_cases e1:x=j-1
 rw[if_pos e1,if_pos e1]
 rw[if_neg e1,if_neg e1]
 by_cases e2:x=j
 rw[if_pos e2,if_pos e2]
 rw[if_neg e2,if_neg e2]
theorem gV {L:List Nat} {j n:Nat} (h:j+1<L.length) (hm:∀x,x<L.length->L.getD x 0<n):∀x,x<L.length->(Pj L j).getD x 0<n:=λx hx=>by
 rw[cX _ _ _ h]
 split
 exact hm _ h
 split
 exact hm _ (by omega)
 exact hm x hx
theorem vR {p:Pr} {r:Rv} {c:Cs} {k:Nat} (hc:Fx p c) (h:kS p r c k=true):Eb 1048576 [(Bk p r c k).x,(Bk p r c k).y,(Bk p r c k).z]=true:=by
 have:=(Kl hc.1).to (j:=Gc p c (Em p r c (r.waits.getD k 0))) (i:=c.craft.toNat) (of_decide_eq_true h) (by have:=hc.2.1;have:=hc.2.2.1;omega)
 exact this
theorem To {p:Pr} {r:Rv} {c:Cs} {k:Nat} (hp:Km p) (hc:Fx p c) (hcs:Qa c) (hr:Ng r) (hk:k<r.waits.length) (h:kS p r c k=true):AF Tryz.prog 39 [Ey p,Hg r,Hv c,.int (r.waits.getD k 0)] (.lit (.tuple #[.int .i64 (Bj p c+r.waits.getD k 0),.int .i64 (Bj p c+r.waits.getD k 0+r.flight),.int .i64 (Gc p c (Em p r c (r.waits.getD k 0)):Int),.int .i64 (Bn p.acts (Gc p c (Em p r c (r.waits.getD k 0))+1)),eJ (Bk p r c k)])):=by
 have hw:=hr.2.2.1.2.2 k hk
 have:=Oo p r c (r.waits.getD k 0) hp hc hcs hr ⟨hw.1,hw.2.1⟩
 unfold eG at this
 rwa [if_pos (of_decide_eq_true h)] at this
theorem Va {p:Pr} {r:Rv} {c:Cs} {k:Nat} (hp:Km p) (hc:Fx p c) (hcs:Qa c) (hr:Ng r) (hk:k<r.waits.length) (h:kS p r c k=false):AF Tryz.prog 39 [Ey p,Hg r,Hv c,.int (r.waits.getD k 0)] (.lit (.tuple #[.int .i64 (Bj p c+r.waits.getD k 0),.int .i64 (Bj p c+r.waits.getD k 0+r.flight),.int .i64 (-1),.int .i64 (Bn p.acts p.acts.length),.agg #[.int .i64 0,.int .i64 0,.int .i64 0]])):=by
 have hw:=hr.2.2.1.2.2 k hk
 have:=Oo p r c (r.waits.getD k 0) hp hc hcs hr ⟨hw.1,hw.2.1⟩
 unfold eG at this
 rwa [if_neg (of_decide_eq_false h)] at this
theorem Te {l r:List Rl} (i:Nat):(l++r).getD i Rl.none=if i<l.length then l.getD i Rl.none else r.getD (i-l.length) Rl.none:=by
 simp only[List.getD_eq_getElem?_getD,List.getElem?_append]
 split<;>rfl
def vV (l:List Rl):AV:=if l.length=0 then .lit (.tuple #[.slice none 0 0,.int .i64 0]) else .tup [AbM l,.int 0]
def Nt (p:Pr) (r:Rv) (c:Cs):Prop:=Fx p c/\Ng r
theorem Aax (n:Nat) (h:n<=1000000):AF Tryz.prog 77 [.lit (.int .u64 (n:Int))] (.int (Lib.bitLen n:Int)):=Ji (vs:=[_]) λw=>by
 have:=Tryz.bits_Len (n:Int) w (by omega) (by omega)
 refine this.mono ?_
 rintro e w' ⟨rfl,rfl⟩
 exact⟨by simp,Below.refl _ _⟩
theorem Zi (p:Pr) (r:Rv) (c:Cs) (hp:Km p) (hr:aO r) (hcs:Qa c):AF Tryz.prog 37 [Ey p,Hg r,Hv c] (.bool (bP (Nt p r c))):=by
 refine Cq func37 rfl λB D0 hA0=>?_
 refine Ae 12 ?_
 refine Cz (Vb p c hp hcs) ?_
 refine Ae 1 ?_
 refine qN 10 (bP (Fx p c)) (λhx1=>?_) (λhx1=>?_)
 ·
  refine Ae 1 ?_
  refine Cz (dU r hr) ?_
  refine Ae 5 ?_
  exact Fw (.bool (bP (Ng r))) (congrArg AV.bool (AaI ⟨λg=>⟨Dv hx1,g⟩,λg=>g.2⟩))
 ·
  refine Ae 7 ?_
  exact Fw (.bool false) (congrArg AV.bool (As λg=>Qc hx1 g.1).symm)
theorem gU (r:Rv) (v:V3) {i:Nat} (h:i<r.homes.length):∀x,x<r.homes.length->(Ma (dS r v) (List.range r.homes.length) i).getD x 0<r.homes.length:=λx hx=>by
 have:=cV (dS r v) (n:=r.homes.length) (List.range r.homes.length) (λx hx=>by
  rw[List.length_range] at hx
  rw[Wn hx];exact hx) i (by rw[List.length_range];exact h) x (by rw[List.length_range];exact hx)
 exact this
theorem mC (p:Pr) (r:Rv) (c:Cs) (hp:Km p) (hr:aO r) (hcs:Qa c) (hg:Nt p r c):AF Tryz.prog 18 [Ey p,Hg r,Hv c] (vV (Pc p r c)):=by
 have hi1:=hr.n
 have hn1:=hg.2.1.1
 have hn2:=hg.2.1.2.1
 have hw1:=hg.2.2.2.1.1
 have hw2:=hg.2.2.2.1.2.1
 have hs1:=hg.2.2.2.2.1
 have hs2:=hg.2.2.2.2.2.1
 refine Cq func18 rfl λB D0 hA0=>?_
 refine Ae 15 ?_
 refine Cz (Zi p r c hp hr hcs) ?_
 refine Ae 3 ?_
 refine Iw 27 (!bP (Nt p r c)) false (by rw[(Dw hg)];rfl) ?_
 refine Ae 3 ?_
 refine tF 0 ?_
 refine tF 1 ?_
 refine tF 2 ?_
 refine Ae 15 ?_
 refine lK [3,4,5,8,29,30,31] (λm s=>∃k n,k<=r.waits.length/\m=r.waits.length-k/\(n=(Jl p r c k).length/\n<=k*128)/\(((n=0)/\s=⟨[(3,.elt 3 (λxi=>[Ga p.names,Ik p.homes,Ha p.acts].getD (0+xi) .top)),(4,Ue r),(5,.elt 2 (λxi=>[.int c.craft,.int c.act].getD (0+xi) .top)),(8,.lit (.slice none 0 0)),(29,Dg r.waits),(30,.int (r.waits.length:Int)),(31,.int (k:Int))],[],3,99⟩)\/((0<n)/\s=⟨[(3,.elt 3 (λxi=>[Ga p.names,Ik p.homes,Ha p.acts].getD (0+xi) .top)),(4,Ue r),(5,.elt 2 (λxi=>[.int c.craft,.int c.act].getD (0+xi) .top)),(8,.osl 50 3 n),(29,Dg r.waits),(30,.int (r.waits.length:Int)),(31,.int (k:Int))],[(50,.vec 52 3 n (λxi=>Cu ((Jl p r c k).getD xi Rl.none)))],51,99⟩))) r.waits.length ⟨0,0,Nat.zero_le _,rfl,⟨rfl,Nat.zero_le _⟩,(.inl ⟨rfl,(by kernel_rfl)⟩)⟩ ?_
 rintro _ _ ⟨k,n,hkn,rfl,hFk,(⟨hk0,rfl⟩|⟨hk0,rfl⟩)⟩ J1 hJ1
 ·
  refine Ae 6 ?_
  refine Ft 32 ((k:Int)<(r.waits.length:Int)) (λhx1 hx1d=>?_) (λhx1 hx1d=>?_)
  ·
   refine Ae 7 ?_
   refine Gn k r.waits.length ?_
   refine Ae 10 ?_
   refine Dx (kS p r c k) (λhx2=>?_) (λhx2=>?_)
   ·
    refine Cz (To hp hg.1 hcs hg.2 (by omega) hx2) ?_
    refine Ae 19 ?_
    refine Iw 47 (decide ((((Gc p c (Em p r c (r.waits.getD k 0))):Nat):Int)<0)) false (decide_eq_false (by omega)) ?_
    refine Ae 5 ?_
    have hV:=vR hg.1 hx2
    refine tF 3 ?_
    refine Ae 7 ?_
    refine tF 4 ?_
    refine Ae 15 ?_
    refine lK [3,4,5,8,10,15,16,17,29,30,31,51,52] (λm s=>∃a,a<=r.homes.length/\m=r.homes.length-a/\True/\((a=0/\s=⟨[(3,.elt 3 (λxi=>[Ga p.names,Ik p.homes,Ha p.acts].getD (0+xi) .top)),(4,Ue r),(5,.elt 2 (λxi=>[.int c.craft,.int c.act].getD (0+xi) .top)),(8,.lit (.slice none 0 0)),(10,.int ((r.waits).getD k 0)),(15,Xj (Bk p r c k)),(16,jD r (Bk p r c k)),(17,.lit (.slice none 0 0)),(29,Dg r.waits),(30,.int (r.waits.length:Int)),(31,.int (k:Int)),(51,.int (r.homes.length:Int)),(52,.int ((0:Nat):Int))],[],5,99⟩)\/(0<a/\s=⟨[(3,.elt 3 (λxi=>[Ga p.names,Ik p.homes,Ha p.acts].getD (0+xi) .top)),(4,Ue r),(5,.elt 2 (λxi=>[.int c.craft,.int c.act].getD (0+xi) .top)),(8,.lit (.slice none 0 0)),(10,.int ((r.waits).getD k 0)),(15,Xj (Bk p r c k)),(16,jD r (Bk p r c k)),(17,.osl 60 1 a),(29,Dg r.waits),(30,.int (r.waits.length:Int)),(31,.int (k:Int)),(51,.int (r.homes.length:Int)),(52,.int (a:Int))],[(60,.vec 3 1 a (λxi=>AV.int (xi:Int)))],61,99⟩))) r.homes.length ⟨0,Nat.zero_le _,rfl,trivial,.inl ⟨rfl,(by kernel_rfl)⟩⟩ ?_
    rintro _ _ ⟨a,han,rfl,hFa,(⟨ha0,rfl⟩|⟨ha0,rfl⟩)⟩ J2 hJ2
    ·
     subst ha0
     refine Ae 6 ?_
     refine Ft 53 (((0:Nat):Int)<(r.homes.length:Int)) (λhx3 hx3d=>?_) (λhx3 hx3d=>?_)
     ·
      refine Ae 14 ?_
      refine Ce (.osl 5 1 1) (.new 5 (.vec 3 1 1 (λ_=> .int ((0:Nat):Int)))) (Ak 23 1 #[(0,(.tmp 56))] (by kernel_rfl) underlying23 1 sizeOf3 _ zeroValue3 (by kernel_rfl) (Nat.le_of_ble_eq_true (by kernel_rfl)) (Nat.le_of_ble_eq_true (by kernel_rfl)) (Nat.le_of_ble_eq_true (by kernel_rfl)) 5 [.int ((0:Nat):Int)] (by kernel_rfl) (λ_=> .int ((0:Nat):Int)) (by kernel_rfl)) ?_
      refine Ce (.osl 6 1 1) (.newr 5 6 (.vec 3 1 1 (λxi=>AV.int (xi:Int)))) (Cr (.tmp 55) (.tmp 57) 23 (by kernel_rfl) underlying23 1 8 (.int .i64 0) (by kernel_rfl) (by kernel_rfl) (by decide) 1 (by omega) (λ_=> .int ((0:Nat):Int)) (λxi=>AV.int (xi:Int)) 6 (λi hi=>by(obtain rfl:i=0:=(by omega));rfl) (λi hi j hj=>by obtain rfl:j=0:=(by omega);rfl) (by unfold maxLen;omega) (by omega) (by kernel_rfl) 5 3 (by kernel_rfl) (by kernel_rfl)) ?_
      refine Ae 5 ?_
      refine Fr (((0:Nat):Int)+1) ((0+1:Nat):Int) ?_
      refine Ae 2 ?_
      exact Hu [3,4,5,8,10,15,16,17,29,30,31,51,52] [(6,60)] 61 0 hA0 [(3,1,1,(λ_=> .int ((0:Nat):Int))),(3,1,1,(λxi=>AV.int (xi:Int)))] ⟨(Hq λ_ _=>rfl),(Hq λ_ _=>rfl),trivial⟩ (hJ2 _ _ (by omega:r.homes.length-(0+1)<r.homes.length-0) ⟨0+1,(by omega),rfl,trivial,.inr ⟨Nat.succ_pos _,rfl⟩⟩)
     ·
      refine Ae 6 ?_
      exfalso;omega
    ·
     refine Ae 6 ?_
     refine Ft 53 ((a:Int)<(r.homes.length:Int)) (λhx4 hx4d=>?_) (λhx4 hx4d=>?_)
     ·
      refine Ae 14 ?_
      refine Ce (.osl 61 1 1) (.new 61 (.vec 3 1 1 (λ_=> .int (a:Int)))) (Ak 23 1 #[(0,(.tmp 56))] (by kernel_rfl) underlying23 1 sizeOf3 _ zeroValue3 (by kernel_rfl) (Nat.le_of_ble_eq_true (by kernel_rfl)) (Nat.le_of_ble_eq_true (by kernel_rfl)) (Nat.le_of_ble_eq_true (by kernel_rfl)) 61 [.int (a:Int)] (by kernel_rfl) (λ_=> .int (a:Int)) (by kernel_rfl)) ?_
      refine Ce (.osl 62 1 (a+1)) (.grow2 60 61 62 (.vec 3 1 (a+1) (λxi=>AV.int (xi:Int)))) (Db (.tmp 55) (.tmp 57) 23 (by kernel_rfl) underlying23 1 8 (.int .i64 0) (by kernel_rfl) (by kernel_rfl) (by decide) a 1 (by omega) (λxi=>AV.int (xi:Int)) (λ_=> .int (a:Int)) (λxi=>AV.int (xi:Int)) 62 (by omega) (by unfold maxLen;omega) (λi hi=>rfl) (λi hi=>by(obtain rfl:i=0:=(by omega));rfl) (λi hi j hj=>by obtain rfl:j=0:=(by omega);rfl) 60 (by kernel_rfl) (by kernel_rfl) 61 3 (by kernel_rfl) (by kernel_rfl)) ?_
      refine Ae 5 ?_
      refine Fr ((a:Int)+1) ((a+1:Nat):Int) ?_
      refine Ae 2 ?_
      exact Hu [3,4,5,8,10,15,16,17,29,30,31,51,52] [(62,60)] 61 0 hA0 [(3,1,1,(λ_=> .int (a:Int))),(3,1,a+1,(λxi=>AV.int (xi:Int)))] ⟨(Hq λ_ _=>rfl),(Hq λ_ _=>rfl),trivial⟩ (hJ2 _ _ (by omega:r.homes.length-(a+1)<r.homes.length-a) ⟨a+1,(by omega),rfl,trivial,.inr ⟨Nat.succ_pos _,rfl⟩⟩)
     ·
      refine Ae 6 ?_
      have hae:a=r.homes.length:=by omega
      subst hae
      refine Ae 4 ?_
      refine dM 61 func41 (λ_ hD5=>?_)
      refine Ae 11 ?_
      refine Nd (.int .u64 (IntKind.wrap .u64 (r.homes.length:Int))) (.int .u64 (r.homes.length:Int)) ?_ (congrArg (Value.int .u64) (IntWalk.u64_in _ (by omega)))
      refine Cz (Aax _ (by omega)) ?_
      refine Ae 1 ?_
      refine dM 61 func76 (λ_ hD6=>?_)
      refine Ae 11 ?_
      refine vul 1 ?_
      refine Ae 5 ?_
      refine Fr ((r.homes.length:Int)-0) ((r.homes.length-0:Nat):Int) ?_
      refine Ae 8 ?_
      refine Iw 25 (decide (((r.homes.length-0:Nat):Int)<=12)) true (decide_eq_true (by omega)) ?_
      refine Ae 9 ?_
      refine dM 61 func104 (λ_ hD7=>?_)
      refine Ae 3 ?_
      refine Nd (.int .i64 1) (.int .i64 1) ?_
      refine Ae 4 ?_
      refine Xy 60 3 1 r.homes.length (λxi=>AV.int (xi:Int)) (λxi=>AV.int (((Ma (dS r (Bk p r c k)) (List.range r.homes.length) 0).getD xi 0:Nat):Int)) (λx9 hx9=>by show AV.int _=AV.int _;rw[Ma,Wn hx9]) ?_
      refine Mf [0,1,2,3,8] (r.homes.length-1) (λi=>True) (λi=>⟨[(0,.osl 60 1 r.homes.length),(1,.int 0),(2,.int (r.homes.length:Int)),(3,.fn 42 [jD r (Bk p r c k)]),(8,.int ((i+1:Nat):Int))],[(60,.vec 3 1 r.homes.length (λxi=>AV.int (((Ma (dS r (Bk p r c k)) (List.range r.homes.length) i).getD xi 0:Nat):Int)))],61,53⟩) trivial (λi hin hFi J3 hJ3=>?_)
      refine Ae 8 ?_
      refine Ft 14 (((i+1:Nat):Int)<(r.homes.length:Int)) (λhx8 hx8d=>?_) (λhx8 hx8d=>?_)
      ·
       refine Ae 12 ?_
       refine lK [0,1,2,3,8,9] (λm s=>∃j L,m=j+1/\(Vr (dS r (Bk p r c k)) L j=Ma (dS r (Bk p r c k)) (List.range r.homes.length) (i+1)/\j<=i+1/\L.length=r.homes.length/\(∀x,x<r.homes.length->L.getD x 0<r.homes.length))/\s=⟨[(0,.osl 60 1 r.homes.length),(1,.int 0),(2,.int (r.homes.length:Int)),(3,.fn 42 [jD r (Bk p r c k)]),(8,.int ((i+1:Nat):Int)),(9,.int (j:Int))],[(60,.vec 3 1 r.homes.length (λxi=>AV.int (((L).getD xi 0:Nat):Int)))],61,53⟩) ((i+1)+1) ⟨i+1,(Ma (dS r (Bk p r c k)) (List.range r.homes.length) i),rfl,⟨rfl,Nat.le_refl _,by rw[Pg,List.length_range],gU r (Bk p r c k) (by omega)⟩,(by kernel_rfl)⟩ ?_
       rintro _ _ ⟨j,L,rfl,hF,rfl⟩ J4 hJ4
       obtain⟨hF1,hF2,hF3,hF4⟩:=hF
       refine Ae 2 ?_
       refine vsp ((0:Int)<(j:Int)) (λhx9 hx9d=>?_) (λhx9 hx9d=>?_)
       ·
        refine Kq [(2,.bool true,.none),(7,Fv (.osl 60 1 r.homes.length) j,.none),(8,.int (((L).getD j 0:Nat):Int),(.read 60)),(11,.int ((j-1:Nat):Int),.none),(12,Fv (.osl 60 1 r.homes.length) (j-1),.none),(13,.int (((L).getD (j-1) 0:Nat):Int),(.read 60)),(14,_,.none)] [0,1,2,3,8,9,34] ⟨lJ hx9,Ox j r.homes.length,Av (De 3 (.tmp 25) (by kernel_rfl) isAgg3 60 j 0 1 (by kernel_rfl) 3 r.homes.length (λxi=>AV.int (((L).getD xi 0:Nat):Int)) (by kernel_rfl) (by omega) (by decide)),Av (Cn (v:= .int .i64 (IntKind.wrap .i64 ((j:Int)-1))) (v':= .int .i64 ((j-1:Nat):Int)) _ (by kernel_rfl) rfl (by kernel_rfl) (λw=>by kernel_rfl) (congrArg (Value.int .i64) ((IntWalk.i64_in _ (by omega)).trans (by omega)))),Ox (j-1) r.homes.length,Av (De 3 (.tmp 30) (by kernel_rfl) isAgg3 60 (j-1) 0 1 (by kernel_rfl) 3 r.homes.length (λxi=>AV.int (((L).getD xi 0:Nat):Int)) (by kernel_rfl) (by omega) (by decide)),AcS (tN r (Bk p r c k) (L.getD j 0) (L.getD (j-1) 0) hg.2 (hF4 j (by omega)) (hF4 (j-1) (by omega)) hV),trivial⟩ ?_
        refine Ae 1 ?_
        refine Ft 34 (orI (Ki (Tk r (Bk p r c k) (L.getD j 0)) (Tk r (Bk p r c k) (L.getD (j-1) 0))) (Ki ((L.getD j 0:Nat):Int) ((L.getD (j-1) 0:Nat):Int))<0) (λhx10 hx10d=>?_) (λhx10 hx10d=>?_)
        ·
         refine Ae 5 ?_
         refine Kq [(4,.int ((j-1:Nat):Int),.none),(7,.int ((j-1:Nat):Int),.none),(8,Fv (.osl 60 1 r.homes.length) (j-1),.none),(9,.int (((L).getD (j-1) 0:Nat):Int),(.read 60)),(12,Fv (.osl 60 1 r.homes.length) j,.none),(13,.int (((L).getD j 0:Nat):Int),(.read 60)),(14,Fv (.osl 60 1 r.homes.length) j,.none),(15,.lit Go.undef,(.set 60 (.vec 3 1 r.homes.length (λxi=>if xi=j then .int (((L).getD (j-1) 0:Nat):Int) else (λxi=>AV.int (((L).getD xi 0:Nat):Int)) xi)))),(16,Fv (.osl 60 1 r.homes.length) (j-1),.none),(17,.lit Go.undef,(.set 60 (.vec 3 1 r.homes.length (λxi=>if xi=j-1 then .int (((L).getD j 0:Nat):Int) else (λxi=>if xi=j then .int (((L).getD (j-1) 0:Nat):Int) else (λxi=>AV.int (((L).getD xi 0:Nat):Int)) xi) xi))))] [0,1,2,3,8,9] ⟨Av (Cn (v:= .int .i64 (IntKind.wrap .i64 ((j:Int)-1))) (v':= .int .i64 ((j-1:Nat):Int)) _ (by kernel_rfl) rfl (by kernel_rfl) (λw=>by kernel_rfl) (congrArg (Value.int .i64) ((IntWalk.i64_in _ (by omega)).trans (by omega)))),Av (Cn (v:= .int .i64 (IntKind.wrap .i64 ((j:Int)-1))) (v':= .int .i64 ((j-1:Nat):Int)) _ (by kernel_rfl) rfl (by kernel_rfl) (λw=>by kernel_rfl) (congrArg (Value.int .i64) ((IntWalk.i64_in _ (by omega)).trans (by omega)))),Ox (j-1) r.homes.length,Av (De 3 (.tmp 45) (by kernel_rfl) isAgg3 60 (j-1) 0 1 (by kernel_rfl) 3 r.homes.length (λxi=>AV.int (((L).getD xi 0:Nat):Int)) (by kernel_rfl) (by omega) (by decide)),Ox j r.homes.length,Av (De 3 (.tmp 49) (by kernel_rfl) isAgg3 60 j 0 1 (by kernel_rfl) 3 r.homes.length (λxi=>AV.int (((L).getD xi 0:Nat):Int)) (by kernel_rfl) (by omega) (by decide)),Ox j r.homes.length,Av (Fp 3 (.tmp 51) (.tmp 46) (by kernel_rfl) 1 sizeOf3 60 j (by kernel_rfl) 3 r.homes.length (λxi=>AV.int (((L).getD xi 0:Nat):Int)) (by kernel_rfl) (by omega) (by kernel_rfl) (by kernel_rfl) (by kernel_rfl) (.int (((L).getD (j-1) 0:Nat):Int)) (by kernel_rfl)),Ox (j-1) r.homes.length,Av (Fp 3 (.tmp 52) (.tmp 50) (by kernel_rfl) 1 sizeOf3 60 (j-1) (by kernel_rfl) 3 r.homes.length (λxi=>if xi=j then .int (((L).getD (j-1) 0:Nat):Int) else (λxi=>AV.int (((L).getD xi 0:Nat):Int)) xi) (by kernel_rfl) (by omega) (by kernel_rfl) (by kernel_rfl) (by kernel_rfl) (.int (((L).getD j 0:Nat):Int)) (by kernel_rfl)),trivial⟩ ?_
         refine Ae 2 ?_
         refine Xy 60 3 1 r.homes.length (λxi=>if xi=j-1 then .int (((L).getD j 0:Nat):Int) else (λxi=>if xi=j then .int (((L).getD (j-1) 0:Nat):Int) else (λxi=>AV.int (((L).getD xi 0:Nat):Int)) xi) xi) (λxi=>AV.int (((Pj L (j-1)).getD xi 0:Nat):Int)) (λx9 hx9=>wG L j x9 (by omega) (by omega)) ?_
         refine Ae 2 ?_
         refine Fr ((j:Int)-1) ((j-1:Nat):Int) ?_
         refine Ae 2 ?_
         exact Om [0,1,2,3,8,9] (hJ4 _ _ (by omega:(j-1)+1<j+1) ⟨j-1,Pj L (j-1),rfl,⟨(fR (by omega) ((Zq r (Bk p r c k) (L.getD j 0) (L.getD (j-1) 0)).symm.trans hx10)).symm.trans hF1,by omega,by rw[Mn];exact hF3,by rw[<-hF3];exact gV (by omega) (by rw[hF3];exact hF4)⟩,rfl⟩)
        ·
         refine Ae 7 ?_
         have hL:L=Ma (dS r (Bk p r c k)) (List.range r.homes.length) (i+1):=(fS (by omega) ((Zq r (Bk p r c k) (L.getD j 0) (L.getD (j-1) 0)).symm.trans hx10)).symm.trans hF1
         subst hL
         refine Ae 2 ?_
         refine Fr (((i+1:Nat):Int)+1) ((i+1+1:Nat):Int) ?_
         refine Ae 2 ?_
         exact Om [0,1,2,3,8] (hJ3 (by omega) trivial)
       ·
        refine Kq [(2,.bool false,.none)] [0,1,2,3,8,9,34] ⟨lJ hx9,trivial⟩ ?_
        refine Ae 8 ?_
        have hL:L=Ma (dS r (Bk p r c k)) (List.range r.homes.length) (i+1):=(fT (by omega)).symm.trans hF1
        subst hL
        refine Ae 2 ?_
        refine Fr (((i+1:Nat):Int)+1) ((i+1+1:Nat):Int) ?_
        refine Ae 2 ?_
        exact Om [0,1,2,3,8] (hJ3 (by omega) trivial)
      ·
       refine Ae 5 ?_
       refine vrI (Ae 7 ?_)
       refine vrI (Ae 1 ?_)
       refine vrI (Ae 2 ?_)
       have hie:i=r.homes.length-1:=by omega
       subst hie
       refine Xy 60 3 1 r.homes.length (λxi=>AV.int (((Ma (dS r (Bk p r c k)) (List.range r.homes.length) (r.homes.length-1)).getD xi 0:Nat):Int)) (λxi=>AV.int (((Ee r (Bk p r c k)).getD xi 0:Nat):Int)) (λx9 hx9=>rfl) ?_
       refine dL 60 [17] 3 1 r.homes.length (λxi=>AV.int (((Ee r (Bk p r c k)).getD xi 0:Nat):Int)) (Hq λ_ _=>rfl) ?_
       refine Ae 8 ?_
       refine lK [3,4,5,8,10,15,29,30,31,63,64,65] (λm s=>∃y n2,y<=r.homes.length/\m=r.homes.length-y/\(n2=(Pb p r c k y).length/\n2<=k*128+y*16)/\(((n2=0)/\s=⟨[(3,.elt 3 (λxi=>[Ga p.names,Ik p.homes,Ha p.acts].getD (0+xi) .top)),(4,Ue r),(5,.elt 2 (λxi=>[.int c.craft,.int c.act].getD (0+xi) .top)),(8,.lit (.slice none 0 0)),(10,.int ((r.waits).getD k 0)),(15,Xj (Bk p r c k)),(29,Dg r.waits),(30,.int (r.waits.length:Int)),(31,.int (k:Int)),(63,.sl 1 r.homes.length (λxi=>AV.int (((Ee r (Bk p r c k)).getD xi 0:Nat):Int))),(64,.int (r.homes.length:Int)),(65,.int (y:Int))],[],61,99⟩)\/((0<n2)/\s=⟨[(3,.elt 3 (λxi=>[Ga p.names,Ik p.homes,Ha p.acts].getD (0+xi) .top)),(4,Ue r),(5,.elt 2 (λxi=>[.int c.craft,.int c.act].getD (0+xi) .top)),(8,.osl 50 3 n2),(10,.int ((r.waits).getD k 0)),(15,Xj (Bk p r c k)),(29,Dg r.waits),(30,.int (r.waits.length:Int)),(31,.int (k:Int)),(63,.sl 1 r.homes.length (λxi=>AV.int (((Ee r (Bk p r c k)).getD xi 0:Nat):Int))),(64,.int (r.homes.length:Int)),(65,.int (y:Int))],[(50,.vec 52 3 n2 (λxi=>Cu ((Pb p r c k y).getD xi Rl.none)))],61,99⟩))) r.homes.length ⟨0,n,Nat.zero_le _,rfl,⟨by rw[sO];omega,by omega⟩,(.inl ⟨hk0,(by kernel_rfl)⟩)⟩ ?_
       rintro _ _ ⟨y,n2,hyn,rfl,hFy,(⟨hy0,rfl⟩|⟨hy0,rfl⟩)⟩ J5 hJ5
       ·
        refine Ae 6 ?_
        refine Ft 66 ((y:Int)<(r.homes.length:Int)) (λhx11 hx11d=>?_) (λhx11 hx11d=>?_)
        ·
         refine Ae 7 ?_
         refine Gn y r.homes.length ?_
         refine Ae 4 ?_
         have hom:=Wg r (Bk p r c k) (x:=y) (by omega)
         refine Ae 9 ?_
         refine lK [3,4,5,8,10,15,20,29,30,31,63,64,65,70,71,72] (λm s=>∃u n3,u<=r.rises.length/\m=r.rises.length-u/\(n3=(Ez p r c k y u).length/\n3<=k*128+y*16+u)/\(((n3=0)/\s=⟨[(3,.elt 3 (λxi=>[Ga p.names,Ik p.homes,Ha p.acts].getD (0+xi) .top)),(4,Ue r),(5,.elt 2 (λxi=>[.int c.craft,.int c.act].getD (0+xi) .top)),(8,.lit (.slice none 0 0)),(10,.int ((r.waits).getD k 0)),(15,Xj (Bk p r c k)),(20,.int (((Ee r (Bk p r c k)).getD y 0:Nat):Int)),(29,Dg r.waits),(30,.int (r.waits.length:Int)),(31,.int (k:Int)),(63,.sl 1 r.homes.length (λxi=>AV.int (((Ee r (Bk p r c k)).getD xi 0:Nat):Int))),(64,.int (r.homes.length:Int)),(65,.int (y:Int)),(70,Dg r.rises),(71,.int (r.rises.length:Int)),(72,.int (u:Int))],[],61,99⟩)\/((0<n3)/\s=⟨[(3,.elt 3 (λxi=>[Ga p.names,Ik p.homes,Ha p.acts].getD (0+xi) .top)),(4,Ue r),(5,.elt 2 (λxi=>[.int c.craft,.int c.act].getD (0+xi) .top)),(8,.osl 50 3 n3),(10,.int ((r.waits).getD k 0)),(15,Xj (Bk p r c k)),(20,.int (((Ee r (Bk p r c k)).getD y 0:Nat):Int)),(29,Dg r.waits),(30,.int (r.waits.length:Int)),(31,.int (k:Int)),(63,.sl 1 r.homes.length (λxi=>AV.int (((Ee r (Bk p r c k)).getD xi 0:Nat):Int))),(64,.int (r.homes.length:Int)),(65,.int (y:Int)),(70,Dg r.rises),(71,.int (r.rises.length:Int)),(72,.int (u:Int))],[(50,.vec 52 3 n3 (λxi=>Cu ((Ez p r c k y u).getD xi Rl.none)))],61,99⟩))) r.rises.length ⟨0,n2,Nat.zero_le _,rfl,⟨by rw[cQ];omega,by omega⟩,(.inl ⟨hy0,(by kernel_rfl)⟩)⟩ ?_
         rintro _ _ ⟨u,n3,hun,rfl,hFu,(⟨hu0,rfl⟩|⟨hu0,rfl⟩)⟩ J6 hJ6
         ·
          refine Ae 6 ?_
          refine Ft 73 ((u:Int)<(r.rises.length:Int)) (λhx12 hx12d=>?_) (λhx12 hx12d=>?_)
          ·
           refine Ae 5 ?_
           have hris:=hg.2.2.2.2.2.2 u (by omega)
           refine Ae 2 ?_
           refine Gn u r.rises.length ?_
           refine Ae 9 ?_
           refine Gn ((Ee r (Bk p r c k)).getD y 0) r.homes.length ?_
           refine Ae 2 ?_
           refine Cz (Jq (r.homes.getD ((Ee r (Bk p r c k)).getD y 0) V3.zero) (r.rises.getD u 0) (hg.2.2.1 _ hom).1 ⟨hris.1,hris.2.1⟩) ?_
           refine Ae 1 ?_
           refine qN 83 (Kj (r.homes.getD ((Ee r (Bk p r c k)).getD y 0) V3.zero) (r.rises.getD u 0)) (λhx13=>?_) (λhx13=>?_)
           ·
            refine Ae 2 ?_
            refine Cz (Jq (Bk p r c k) (r.rises.getD u 0) hV ⟨hris.1,hris.2.1⟩) ?_
            refine Ae 3 ?_
            refine qN 87 (Kj (Bk p r c k) (r.rises.getD u 0)) (λhx14=>?_) (λhx14=>?_)
            ·
             refine Ae 7 ?_
             refine Ce (.osl 61 3 1) (.new 61 (.vec 52 3 1 (λ_=> .lit (.agg #[.int .i64 (((Ee r (Bk p r c k)).getD y 0:Nat):Int),.int .i64 ((r.waits).getD k 0),.int .i64 ((r.rises).getD u 0)])))) (Ak 45 1 #[(0,(.tmp 92))] (by kernel_rfl) underlying45 3 sizeOf52 _ zeroValue52 (by kernel_rfl) (Nat.le_of_ble_eq_true (by kernel_rfl)) (Nat.le_of_ble_eq_true (by kernel_rfl)) (Nat.le_of_ble_eq_true (by kernel_rfl)) 61 [.int (((Ee r (Bk p r c k)).getD y 0:Nat):Int),.int ((r.waits).getD k 0),.int ((r.rises).getD u 0)] (by kernel_rfl) (λ_=> .lit (.agg #[.int .i64 (((Ee r (Bk p r c k)).getD y 0:Nat):Int),.int .i64 ((r.waits).getD k 0),.int .i64 ((r.rises).getD u 0)])) (by kernel_rfl)) ?_
             refine Ce (.osl 62 3 1) (.newr 61 62 (.vec 52 3 1 (λxi=>Cu ((Ez p r c k y (u+1)).getD xi Rl.none)))) (Cr (.tmp 88) (.tmp 93) 45 (by kernel_rfl) underlying45 3 24 (.agg #[.int .i64 0,.int .i64 0,.int .i64 0]) (by kernel_rfl) (by kernel_rfl) (by decide) 1 (by omega) (λ_=> .lit (.agg #[.int .i64 (((Ee r (Bk p r c k)).getD y 0:Nat):Int),.int .i64 ((r.waits).getD k 0),.int .i64 ((r.rises).getD u 0)])) (λxi=>Cu ((Ez p r c k y (u+1)).getD xi Rl.none)) 62 (λi hi=>by(obtain rfl:i=0:=(by omega));show Cu _=Cu ⟨(((Ee r (Bk p r c k)).getD y 0:Nat):Int),r.waits.getD k 0,r.rises.getD u 0⟩;rw[Ij hx13 hx14,List.eq_nil_of_length_eq_zero (by omega:(Ez p r c k y u).length=0)];rfl) (λi hi j hj=>match j,hj with|0,_=>rfl|1,_=>rfl|2,_=>rfl|_+3,h=>absurd h (by omega)) (by unfold maxLen;omega) (by omega) (by kernel_rfl) 61 52 (by kernel_rfl) (by kernel_rfl)) ?_
             refine Ae 5 ?_
             refine Fr ((u:Int)+1) ((u+1:Nat):Int) ?_
             refine Ae 2 ?_
             exact Hu [3,4,5,8,10,15,20,29,30,31,63,64,65,70,71,72] [(62,50)] 61 0 hA0 [(52,3,1,(λ_=> .lit (.agg #[.int .i64 (((Ee r (Bk p r c k)).getD y 0:Nat):Int),.int .i64 ((r.waits).getD k 0),.int .i64 ((r.rises).getD u 0)]))),(52,3,1,(λxi=>Cu ((Ez p r c k y (u+1)).getD xi Rl.none)))] ⟨(Hq λ_ _=>rfl),(Hq λ_ _=>rfl),trivial⟩ (hJ6 _ _ (by omega:r.rises.length-(u+1)<r.rises.length-u) ⟨u+1,1,(by omega),rfl,⟨by rw[Ij hx13 hx14,List.length_append,List.length_singleton];omega,by omega⟩,(.inr ⟨by omega,rfl⟩)⟩)
            ·
             refine Ae 5 ?_
             refine Fr ((u:Int)+1) ((u+1:Nat):Int) ?_
             refine Ae 2 ?_
             exact Om [3,4,5,8,10,15,20,29,30,31,63,64,65,70,71,72] (hJ6 _ _ (by omega:r.rises.length-(u+1)<r.rises.length-u) ⟨u+1,0,(by omega),rfl,⟨by rw[Fc (.inr hx14)];omega,by omega⟩,(.inl ⟨by omega,rfl⟩)⟩)
           ·
            refine Ae 11 ?_
            refine Fr ((u:Int)+1) ((u+1:Nat):Int) ?_
            refine Ae 2 ?_
            exact Om [3,4,5,8,10,15,20,29,30,31,63,64,65,70,71,72] (hJ6 _ _ (by omega:r.rises.length-(u+1)<r.rises.length-u) ⟨u+1,0,(by omega),rfl,⟨by rw[Fc (.inl hx13)];omega,by omega⟩,(.inl ⟨by omega,rfl⟩)⟩)
          ·
           refine Ae 8 ?_
           refine Fr ((y:Int)+1) ((y+1:Nat):Int) ?_
           refine Ae 2 ?_
           exact Om [3,4,5,8,10,15,29,30,31,63,64,65] (hJ5 _ _ (by omega:r.homes.length-(y+1)<r.homes.length-y) ⟨y+1,0,(by omega),rfl,⟨by rw[<-Uo,show r.rises.length=u by omega];omega,by omega⟩,(.inl ⟨by omega,rfl⟩)⟩)
         ·
          refine Ae 6 ?_
          refine Ft 73 ((u:Int)<(r.rises.length:Int)) (λhx15 hx15d=>?_) (λhx15 hx15d=>?_)
          ·
           refine Ae 5 ?_
           have hris:=hg.2.2.2.2.2.2 u (by omega)
           refine Ae 2 ?_
           refine Gn u r.rises.length ?_
           refine Ae 9 ?_
           refine Gn ((Ee r (Bk p r c k)).getD y 0) r.homes.length ?_
           refine Ae 2 ?_
           refine Cz (Jq (r.homes.getD ((Ee r (Bk p r c k)).getD y 0) V3.zero) (r.rises.getD u 0) (hg.2.2.1 _ hom).1 ⟨hris.1,hris.2.1⟩) ?_
           refine Ae 1 ?_
           refine qN 83 (Kj (r.homes.getD ((Ee r (Bk p r c k)).getD y 0) V3.zero) (r.rises.getD u 0)) (λhx16=>?_) (λhx16=>?_)
           ·
            refine Ae 2 ?_
            refine Cz (Jq (Bk p r c k) (r.rises.getD u 0) hV ⟨hris.1,hris.2.1⟩) ?_
            refine Ae 3 ?_
            refine qN 87 (Kj (Bk p r c k) (r.rises.getD u 0)) (λhx17=>?_) (λhx17=>?_)
            ·
             refine Ae 7 ?_
             refine Ce (.osl 61 3 1) (.new 61 (.vec 52 3 1 (λ_=> .lit (.agg #[.int .i64 (((Ee r (Bk p r c k)).getD y 0:Nat):Int),.int .i64 ((r.waits).getD k 0),.int .i64 ((r.rises).getD u 0)])))) (Ak 45 1 #[(0,(.tmp 92))] (by kernel_rfl) underlying45 3 sizeOf52 _ zeroValue52 (by kernel_rfl) (Nat.le_of_ble_eq_true (by kernel_rfl)) (Nat.le_of_ble_eq_true (by kernel_rfl)) (Nat.le_of_ble_eq_true (by kernel_rfl)) 61 [.int (((Ee r (Bk p r c k)).getD y 0:Nat):Int),.int ((r.waits).getD k 0),.int ((r.rises).getD u 0)] (by kernel_rfl) (λ_=> .lit (.agg #[.int .i64 (((Ee r (Bk p r c k)).getD y 0:Nat):Int),.int .i64 ((r.waits).getD k 0),.int .i64 ((r.rises).getD u 0)])) (by kernel_rfl)) ?_
             refine Ce (.osl 62 3 (n3+1)) (.grow2 50 61 62 (.vec 52 3 (n3+1) (λxi=>Cu ((Ez p r c k y (u+1)).getD xi Rl.none)))) (Db (.tmp 88) (.tmp 93) 45 (by kernel_rfl) underlying45 3 24 (.agg #[.int .i64 0,.int .i64 0,.int .i64 0]) (by kernel_rfl) (by kernel_rfl) (by decide) n3 1 (by omega) (λxi=>Cu ((Ez p r c k y u).getD xi Rl.none)) (λ_=> .lit (.agg #[.int .i64 (((Ee r (Bk p r c k)).getD y 0:Nat):Int),.int .i64 ((r.waits).getD k 0),.int .i64 ((r.rises).getD u 0)])) (λxi=>Cu ((Ez p r c k y (u+1)).getD xi Rl.none)) 62 (by omega) (by unfold maxLen;omega) (λi hi=>by show Cu _=Cu _;rw[Ij hx16 hx17,Te,if_pos (by omega)]) (λi hi=>by(obtain rfl:i=0:=(by omega));show Cu _=Cu ⟨(((Ee r (Bk p r c k)).getD y 0:Nat):Int),r.waits.getD k 0,r.rises.getD u 0⟩;rw[Ij hx16 hx17,Te,if_neg (by omega),show n3+0-(Ez p r c k y u).length=0 by omega];rfl) (λi hi j hj=>match j,hj with|0,_=>rfl|1,_=>rfl|2,_=>rfl|_+3,h=>absurd h (by omega)) 50 (by kernel_rfl) (by kernel_rfl) 61 52 (by kernel_rfl) (by kernel_rfl)) ?_
             refine Ae 5 ?_
             refine Fr ((u:Int)+1) ((u+1:Nat):Int) ?_
             refine Ae 2 ?_
             exact Hu [3,4,5,8,10,15,20,29,30,31,63,64,65,70,71,72] [(62,50)] 61 0 hA0 [(52,3,1,(λ_=> .lit (.agg #[.int .i64 (((Ee r (Bk p r c k)).getD y 0:Nat):Int),.int .i64 ((r.waits).getD k 0),.int .i64 ((r.rises).getD u 0)]))),(52,3,n3+1,(λxi=>Cu ((Ez p r c k y (u+1)).getD xi Rl.none)))] ⟨(Hq λ_ _=>rfl),(Hq λ_ _=>rfl),trivial⟩ (hJ6 _ _ (by omega:r.rises.length-(u+1)<r.rises.length-u) ⟨u+1,n3+1,(by omega),rfl,⟨by rw[Ij hx16 hx17,List.length_append,List.length_singleton];omega,by omega⟩,(.inr ⟨by omega,rfl⟩)⟩)
            ·
             refine Ae 5 ?_
             refine Fr ((u:Int)+1) ((u+1:Nat):Int) ?_
             refine Ae 2 ?_
             refine Xy 50 52 3 n3 (λxi=>Cu ((Ez p r c k y u).getD xi Rl.none)) (λxi=>Cu ((Ez p r c k y (u+1)).getD xi Rl.none)) (λx9 hx9=>by rw[Fc (.inr hx17)]) ?_
             exact Om [3,4,5,8,10,15,20,29,30,31,63,64,65,70,71,72] (hJ6 _ _ (by omega:r.rises.length-(u+1)<r.rises.length-u) ⟨u+1,n3,(by omega),rfl,⟨by rw[Fc (.inr hx17)];omega,by omega⟩,(.inr ⟨by omega,rfl⟩)⟩)
           ·
            refine Ae 11 ?_
            refine Fr ((u:Int)+1) ((u+1:Nat):Int) ?_
            refine Ae 2 ?_
            refine Xy 50 52 3 n3 (λxi=>Cu ((Ez p r c k y u).getD xi Rl.none)) (λxi=>Cu ((Ez p r c k y (u+1)).getD xi Rl.none)) (λx9 hx9=>by rw[Fc (.inl hx16)]) ?_
            exact Om [3,4,5,8,10,15,20,29,30,31,63,64,65,70,71,72] (hJ6 _ _ (by omega:r.rises.length-(u+1)<r.rises.length-u) ⟨u+1,n3,(by omega),rfl,⟨by rw[Fc (.inl hx16)];omega,by omega⟩,(.inr ⟨by omega,rfl⟩)⟩)
          ·
           refine Ae 7 ?_
           refine Xy 50 52 3 n3 (λxi=>Cu ((Ez p r c k y u).getD xi Rl.none)) (λxi=>Cu ((Pb p r c k (y+1)).getD xi Rl.none)) (λx9 hx9=>by rw[<-Uo,show r.rises.length=u by omega]) ?_
           refine Ae 1 ?_
           refine Fr ((y:Int)+1) ((y+1:Nat):Int) ?_
           refine Ae 2 ?_
           exact Om [3,4,5,8,10,15,29,30,31,63,64,65] (hJ5 _ _ (by omega:r.homes.length-(y+1)<r.homes.length-y) ⟨y+1,n3,(by omega),rfl,⟨by rw[<-Uo,show r.rises.length=u by omega];omega,by omega⟩,(.inr ⟨by omega,rfl⟩)⟩)
        ·
         refine Ae 8 ?_
         refine Fr ((k:Int)+1) ((k+1:Nat):Int) ?_
         refine Ae 2 ?_
         exact Hu [3,4,5,8,29,30,31] [] 3 0 hA0 [] trivial (hJ1 _ _ (by omega:r.waits.length-(k+1)<r.waits.length-k) ⟨k+1,0,(by omega),rfl,⟨by rw[<-cR hx2,show r.homes.length=y by omega];omega,by omega⟩,(.inl ⟨by omega,rfl⟩)⟩)
       ·
        refine Ae 6 ?_
        refine Ft 66 ((y:Int)<(r.homes.length:Int)) (λhx18 hx18d=>?_) (λhx18 hx18d=>?_)
        ·
         refine Ae 7 ?_
         refine Gn y r.homes.length ?_
         refine Ae 4 ?_
         have hom:=Wg r (Bk p r c k) (x:=y) (by omega)
         refine Xy 50 52 3 n2 (λxi=>Cu ((Pb p r c k y).getD xi Rl.none)) (λxi=>Cu ((Ez p r c k y 0).getD xi Rl.none)) (λx9 hx9=>by rw[cQ]) ?_
         refine Ae 9 ?_
         refine lK [3,4,5,8,10,15,20,29,30,31,63,64,65,70,71,72] (λm s=>∃u n3,u<=r.rises.length/\m=r.rises.length-u/\(n3=(Ez p r c k y u).length/\n3<=k*128+y*16+u)/\((0<n3)/\s=⟨[(3,.elt 3 (λxi=>[Ga p.names,Ik p.homes,Ha p.acts].getD (0+xi) .top)),(4,Ue r),(5,.elt 2 (λxi=>[.int c.craft,.int c.act].getD (0+xi) .top)),(8,.osl 50 3 n3),(10,.int ((r.waits).getD k 0)),(15,Xj (Bk p r c k)),(20,.int (((Ee r (Bk p r c k)).getD y 0:Nat):Int)),(29,Dg r.waits),(30,.int (r.waits.length:Int)),(31,.int (k:Int)),(63,.sl 1 r.homes.length (λxi=>AV.int (((Ee r (Bk p r c k)).getD xi 0:Nat):Int))),(64,.int (r.homes.length:Int)),(65,.int (y:Int)),(70,Dg r.rises),(71,.int (r.rises.length:Int)),(72,.int (u:Int))],[(50,.vec 52 3 n3 (λxi=>Cu ((Ez p r c k y u).getD xi Rl.none)))],61,99⟩)) r.rises.length ⟨0,n2,Nat.zero_le _,rfl,⟨by rw[cQ];omega,by omega⟩,⟨hy0,(by kernel_rfl)⟩⟩ ?_
         rintro _ _ ⟨u,n3,hun,rfl,hFu,(⟨hu0,rfl⟩)⟩ J7 hJ7
         ·
          refine Ae 6 ?_
          refine Ft 73 ((u:Int)<(r.rises.length:Int)) (λhx19 hx19d=>?_) (λhx19 hx19d=>?_)
          ·
           refine Ae 5 ?_
           have hris:=hg.2.2.2.2.2.2 u (by omega)
           refine Ae 2 ?_
           refine Gn u r.rises.length ?_
           refine Ae 9 ?_
           refine Gn ((Ee r (Bk p r c k)).getD y 0) r.homes.length ?_
           refine Ae 2 ?_
           refine Cz (Jq (r.homes.getD ((Ee r (Bk p r c k)).getD y 0) V3.zero) (r.rises.getD u 0) (hg.2.2.1 _ hom).1 ⟨hris.1,hris.2.1⟩) ?_
           refine Ae 1 ?_
           refine qN 83 (Kj (r.homes.getD ((Ee r (Bk p r c k)).getD y 0) V3.zero) (r.rises.getD u 0)) (λhx20=>?_) (λhx20=>?_)
           ·
            refine Ae 2 ?_
            refine Cz (Jq (Bk p r c k) (r.rises.getD u 0) hV ⟨hris.1,hris.2.1⟩) ?_
            refine Ae 3 ?_
            refine qN 87 (Kj (Bk p r c k) (r.rises.getD u 0)) (λhx21=>?_) (λhx21=>?_)
            ·
             refine Ae 7 ?_
             refine Ce (.osl 61 3 1) (.new 61 (.vec 52 3 1 (λ_=> .lit (.agg #[.int .i64 (((Ee r (Bk p r c k)).getD y 0:Nat):Int),.int .i64 ((r.waits).getD k 0),.int .i64 ((r.rises).getD u 0)])))) (Ak 45 1 #[(0,(.tmp 92))] (by kernel_rfl) underlying45 3 sizeOf52 _ zeroValue52 (by kernel_rfl) (Nat.le_of_ble_eq_true (by kernel_rfl)) (Nat.le_of_ble_eq_true (by kernel_rfl)) (Nat.le_of_ble_eq_true (by kernel_rfl)) 61 [.int (((Ee r (Bk p r c k)).getD y 0:Nat):Int),.int ((r.waits).getD k 0),.int ((r.rises).getD u 0)] (by kernel_rfl) (λ_=> .lit (.agg #[.int .i64 (((Ee r (Bk p r c k)).getD y 0:Nat):Int),.int .i64 ((r.waits).getD k 0),.int .i64 ((r.rises).getD u 0)])) (by kernel_rfl)) ?_
             refine Ce (.osl 62 3 (n3+1)) (.grow2 50 61 62 (.vec 52 3 (n3+1) (λxi=>Cu ((Ez p r c k y (u+1)).getD xi Rl.none)))) (Db (.tmp 88) (.tmp 93) 45 (by kernel_rfl) underlying45 3 24 (.agg #[.int .i64 0,.int .i64 0,.int .i64 0]) (by kernel_rfl) (by kernel_rfl) (by decide) n3 1 (by omega) (λxi=>Cu ((Ez p r c k y u).getD xi Rl.none)) (λ_=> .lit (.agg #[.int .i64 (((Ee r (Bk p r c k)).getD y 0:Nat):Int),.int .i64 ((r.waits).getD k 0),.int .i64 ((r.rises).getD u 0)])) (λxi=>Cu ((Ez p r c k y (u+1)).getD xi Rl.none)) 62 (by omega) (by unfold maxLen;omega) (λi hi=>by show Cu _=Cu _;rw[Ij hx20 hx21,Te,if_pos (by omega)]) (λi hi=>by(obtain rfl:i=0:=(by omega));show Cu _=Cu ⟨(((Ee r (Bk p r c k)).getD y 0:Nat):Int),r.waits.getD k 0,r.rises.getD u 0⟩;rw[Ij hx20 hx21,Te,if_neg (by omega),show n3+0-(Ez p r c k y u).length=0 by omega];rfl) (λi hi j hj=>match j,hj with|0,_=>rfl|1,_=>rfl|2,_=>rfl|_+3,h=>absurd h (by omega)) 50 (by kernel_rfl) (by kernel_rfl) 61 52 (by kernel_rfl) (by kernel_rfl)) ?_
             refine Ae 5 ?_
             refine Fr ((u:Int)+1) ((u+1:Nat):Int) ?_
             refine Ae 2 ?_
             exact Hu [3,4,5,8,10,15,20,29,30,31,63,64,65,70,71,72] [(62,50)] 61 0 hA0 [(52,3,1,(λ_=> .lit (.agg #[.int .i64 (((Ee r (Bk p r c k)).getD y 0:Nat):Int),.int .i64 ((r.waits).getD k 0),.int .i64 ((r.rises).getD u 0)]))),(52,3,n3+1,(λxi=>Cu ((Ez p r c k y (u+1)).getD xi Rl.none)))] ⟨(Hq λ_ _=>rfl),(Hq λ_ _=>rfl),trivial⟩ (hJ7 _ _ (by omega:r.rises.length-(u+1)<r.rises.length-u) ⟨u+1,n3+1,(by omega),rfl,⟨by rw[Ij hx20 hx21,List.length_append,List.length_singleton];omega,by omega⟩,⟨by omega,rfl⟩⟩)
            ·
             refine Ae 5 ?_
             refine Fr ((u:Int)+1) ((u+1:Nat):Int) ?_
             refine Ae 2 ?_
             refine Xy 50 52 3 n3 (λxi=>Cu ((Ez p r c k y u).getD xi Rl.none)) (λxi=>Cu ((Ez p r c k y (u+1)).getD xi Rl.none)) (λx9 hx9=>by rw[Fc (.inr hx21)]) ?_
             exact Om [3,4,5,8,10,15,20,29,30,31,63,64,65,70,71,72] (hJ7 _ _ (by omega:r.rises.length-(u+1)<r.rises.length-u) ⟨u+1,n3,(by omega),rfl,⟨by rw[Fc (.inr hx21)];omega,by omega⟩,⟨by omega,rfl⟩⟩)
           ·
            refine Ae 11 ?_
            refine Fr ((u:Int)+1) ((u+1:Nat):Int) ?_
            refine Ae 2 ?_
            refine Xy 50 52 3 n3 (λxi=>Cu ((Ez p r c k y u).getD xi Rl.none)) (λxi=>Cu ((Ez p r c k y (u+1)).getD xi Rl.none)) (λx9 hx9=>by rw[Fc (.inl hx20)]) ?_
            exact Om [3,4,5,8,10,15,20,29,30,31,63,64,65,70,71,72] (hJ7 _ _ (by omega:r.rises.length-(u+1)<r.rises.length-u) ⟨u+1,n3,(by omega),rfl,⟨by rw[Fc (.inl hx20)];omega,by omega⟩,⟨by omega,rfl⟩⟩)
          ·
           refine Ae 7 ?_
           refine Xy 50 52 3 n3 (λxi=>Cu ((Ez p r c k y u).getD xi Rl.none)) (λxi=>Cu ((Pb p r c k (y+1)).getD xi Rl.none)) (λx9 hx9=>by rw[<-Uo,show r.rises.length=u by omega]) ?_
           refine Ae 1 ?_
           refine Fr ((y:Int)+1) ((y+1:Nat):Int) ?_
           refine Ae 2 ?_
           exact Om [3,4,5,8,10,15,29,30,31,63,64,65] (hJ5 _ _ (by omega:r.homes.length-(y+1)<r.homes.length-y) ⟨y+1,n3,(by omega),rfl,⟨by rw[<-Uo,show r.rises.length=u by omega];omega,by omega⟩,(.inr ⟨by omega,rfl⟩)⟩)
        ·
         refine Ae 7 ?_
         refine Xy 50 52 3 n2 (λxi=>Cu ((Pb p r c k y).getD xi Rl.none)) (λxi=>Cu ((Jl p r c (k+1)).getD xi Rl.none)) (λx9 hx9=>by rw[<-cR hx2,show r.homes.length=y by omega]) ?_
         refine Ae 1 ?_
         refine Fr ((k:Int)+1) ((k+1:Nat):Int) ?_
         refine Ae 2 ?_
         exact Hu [3,4,5,8,29,30,31] [(50,50)] 51 0 hA0 [(52,3,n2,(λxi=>Cu ((Jl p r c (k+1)).getD xi Rl.none)))] ⟨(Hq λ_ _=>rfl),trivial⟩ (hJ1 _ _ (by omega:r.waits.length-(k+1)<r.waits.length-k) ⟨k+1,n2,(by omega),rfl,⟨by rw[<-cR hx2,show r.homes.length=y by omega];omega,by omega⟩,(.inr ⟨by omega,rfl⟩)⟩)
   ·
    refine Cz (Va hp hg.1 hcs hg.2 (by omega) hx2) ?_
    refine Ae 27 ?_
    refine Fr ((k:Int)+1) ((k+1:Nat):Int) ?_
    refine Ae 2 ?_
    exact Hu [3,4,5,8,29,30,31] [] 3 0 hA0 [] trivial (hJ1 _ _ (by omega:r.waits.length-(k+1)<r.waits.length-k) ⟨k+1,0,(by omega),rfl,⟨by rw[kU hx2];omega,by omega⟩,(.inl ⟨by omega,rfl⟩)⟩)
  ·
   refine Ae 14 ?_
   exact Fw (.lit (.tuple #[.slice none 0 0,.int .i64 0])) (by have hke:k=r.waits.length:=(by omega);subst hke;exact(if_pos (by rw[Pc];omega)).symm)
 ·
  refine Ae 6 ?_
  refine Ft 32 ((k:Int)<(r.waits.length:Int)) (λhx22 hx22d=>?_) (λhx22 hx22d=>?_)
  ·
   refine Ae 7 ?_
   refine Gn k r.waits.length ?_
   refine Ae 10 ?_
   refine Dx (kS p r c k) (λhx23=>?_) (λhx23=>?_)
   ·
    refine Cz (To hp hg.1 hcs hg.2 (by omega) hx23) ?_
    refine Ae 19 ?_
    refine Iw 47 (decide ((((Gc p c (Em p r c (r.waits.getD k 0))):Nat):Int)<0)) false (decide_eq_false (by omega)) ?_
    refine Ae 5 ?_
    have hV:=vR hg.1 hx23
    refine tF 51 ?_
    refine Ae 7 ?_
    refine tF 52 ?_
    refine Ae 15 ?_
    refine lK [3,4,5,8,10,15,16,17,29,30,31,51,52] (λm s=>∃a,a<=r.homes.length/\m=r.homes.length-a/\True/\((a=0/\s=⟨[(3,.elt 3 (λxi=>[Ga p.names,Ik p.homes,Ha p.acts].getD (0+xi) .top)),(4,Ue r),(5,.elt 2 (λxi=>[.int c.craft,.int c.act].getD (0+xi) .top)),(8,.osl 50 3 n),(10,.int ((r.waits).getD k 0)),(15,Xj (Bk p r c k)),(16,jD r (Bk p r c k)),(17,.lit (.slice none 0 0)),(29,Dg r.waits),(30,.int (r.waits.length:Int)),(31,.int (k:Int)),(51,.int (r.homes.length:Int)),(52,.int ((0:Nat):Int))],[(50,.vec 52 3 n (λxi=>Cu ((Jl p r c k).getD xi Rl.none)))],53,99⟩)\/(0<a/\s=⟨[(3,.elt 3 (λxi=>[Ga p.names,Ik p.homes,Ha p.acts].getD (0+xi) .top)),(4,Ue r),(5,.elt 2 (λxi=>[.int c.craft,.int c.act].getD (0+xi) .top)),(8,.osl 50 3 n),(10,.int ((r.waits).getD k 0)),(15,Xj (Bk p r c k)),(16,jD r (Bk p r c k)),(17,.osl 60 1 a),(29,Dg r.waits),(30,.int (r.waits.length:Int)),(31,.int (k:Int)),(51,.int (r.homes.length:Int)),(52,.int (a:Int))],[(50,.vec 52 3 n (λxi=>Cu ((Jl p r c k).getD xi Rl.none))),(60,.vec 3 1 a (λxi=>AV.int (xi:Int)))],61,99⟩))) r.homes.length ⟨0,Nat.zero_le _,rfl,trivial,.inl ⟨rfl,(by kernel_rfl)⟩⟩ ?_
    rintro _ _ ⟨a,han,rfl,hFa,(⟨ha0,rfl⟩|⟨ha0,rfl⟩)⟩ J8 hJ8
    ·
     subst ha0
     refine Ae 6 ?_
     refine Ft 53 (((0:Nat):Int)<(r.homes.length:Int)) (λhx24 hx24d=>?_) (λhx24 hx24d=>?_)
     ·
      refine Ae 14 ?_
      refine Ce (.osl 53 1 1) (.new 53 (.vec 3 1 1 (λ_=> .int ((0:Nat):Int)))) (Ak 23 1 #[(0,(.tmp 56))] (by kernel_rfl) underlying23 1 sizeOf3 _ zeroValue3 (by kernel_rfl) (Nat.le_of_ble_eq_true (by kernel_rfl)) (Nat.le_of_ble_eq_true (by kernel_rfl)) (Nat.le_of_ble_eq_true (by kernel_rfl)) 53 [.int ((0:Nat):Int)] (by kernel_rfl) (λ_=> .int ((0:Nat):Int)) (by kernel_rfl)) ?_
      refine Ce (.osl 54 1 1) (.newr 53 54 (.vec 3 1 1 (λxi=>AV.int (xi:Int)))) (Cr (.tmp 55) (.tmp 57) 23 (by kernel_rfl) underlying23 1 8 (.int .i64 0) (by kernel_rfl) (by kernel_rfl) (by decide) 1 (by omega) (λ_=> .int ((0:Nat):Int)) (λxi=>AV.int (xi:Int)) 54 (λi hi=>by(obtain rfl:i=0:=(by omega));rfl) (λi hi j hj=>by obtain rfl:j=0:=(by omega);rfl) (by unfold maxLen;omega) (by omega) (by kernel_rfl) 53 3 (by kernel_rfl) (by kernel_rfl)) ?_
      refine Ae 5 ?_
      refine Fr (((0:Nat):Int)+1) ((0+1:Nat):Int) ?_
      refine Ae 2 ?_
      exact Hu [3,4,5,8,10,15,16,17,29,30,31,51,52] [(50,50),(54,60)] 61 0 hA0 [(52,3,n,(λxi=>Cu ((Jl p r c k).getD xi Rl.none))),(3,1,1,(λ_=> .int ((0:Nat):Int))),(3,1,1,(λxi=>AV.int (xi:Int)))] ⟨(Hq λ_ _=>rfl),(Hq λ_ _=>rfl),(Hq λ_ _=>rfl),trivial⟩ (hJ8 _ _ (by omega:r.homes.length-(0+1)<r.homes.length-0) ⟨0+1,(by omega),rfl,trivial,.inr ⟨Nat.succ_pos _,rfl⟩⟩)
     ·
      refine Ae 6 ?_
      exfalso;omega
    ·
     refine Ae 6 ?_
     refine Ft 53 ((a:Int)<(r.homes.length:Int)) (λhx25 hx25d=>?_) (λhx25 hx25d=>?_)
     ·
      refine Ae 14 ?_
      refine Ce (.osl 61 1 1) (.new 61 (.vec 3 1 1 (λ_=> .int (a:Int)))) (Ak 23 1 #[(0,(.tmp 56))] (by kernel_rfl) underlying23 1 sizeOf3 _ zeroValue3 (by kernel_rfl) (Nat.le_of_ble_eq_true (by kernel_rfl)) (Nat.le_of_ble_eq_true (by kernel_rfl)) (Nat.le_of_ble_eq_true (by kernel_rfl)) 61 [.int (a:Int)] (by kernel_rfl) (λ_=> .int (a:Int)) (by kernel_rfl)) ?_
      refine Ce (.osl 62 1 (a+1)) (.grow2 60 61 62 (.vec 3 1 (a+1) (λxi=>AV.int (xi:Int)))) (Db (.tmp 55) (.tmp 57) 23 (by kernel_rfl) underlying23 1 8 (.int .i64 0) (by kernel_rfl) (by kernel_rfl) (by decide) a 1 (by omega) (λxi=>AV.int (xi:Int)) (λ_=> .int (a:Int)) (λxi=>AV.int (xi:Int)) 62 (by omega) (by unfold maxLen;omega) (λi hi=>rfl) (λi hi=>by(obtain rfl:i=0:=(by omega));rfl) (λi hi j hj=>by obtain rfl:j=0:=(by omega);rfl) 60 (by kernel_rfl) (by kernel_rfl) 61 3 (by kernel_rfl) (by kernel_rfl)) ?_
      refine Ae 5 ?_
      refine Fr ((a:Int)+1) ((a+1:Nat):Int) ?_
      refine Ae 2 ?_
      exact Hu [3,4,5,8,10,15,16,17,29,30,31,51,52] [(50,50),(62,60)] 61 0 hA0 [(52,3,n,(λxi=>Cu ((Jl p r c k).getD xi Rl.none))),(3,1,1,(λ_=> .int (a:Int))),(3,1,a+1,(λxi=>AV.int (xi:Int)))] ⟨(Hq λ_ _=>rfl),(Hq λ_ _=>rfl),(Hq λ_ _=>rfl),trivial⟩ (hJ8 _ _ (by omega:r.homes.length-(a+1)<r.homes.length-a) ⟨a+1,(by omega),rfl,trivial,.inr ⟨Nat.succ_pos _,rfl⟩⟩)
     ·
      refine Ae 6 ?_
      have hae:a=r.homes.length:=by omega
      subst hae
      refine Ae 4 ?_
      refine dM 61 func41 (λ_ hD26=>?_)
      refine Ae 11 ?_
      refine Nd (.int .u64 (IntKind.wrap .u64 (r.homes.length:Int))) (.int .u64 (r.homes.length:Int)) ?_ (congrArg (Value.int .u64) (IntWalk.u64_in _ (by omega)))
      refine Cz (Aax _ (by omega)) ?_
      refine Ae 1 ?_
      refine dM 61 func76 (λ_ hD27=>?_)
      refine Ae 11 ?_
      refine vul 1 ?_
      refine Ae 5 ?_
      refine Fr ((r.homes.length:Int)-0) ((r.homes.length-0:Nat):Int) ?_
      refine Ae 8 ?_
      refine Iw 25 (decide (((r.homes.length-0:Nat):Int)<=12)) true (decide_eq_true (by omega)) ?_
      refine Ae 9 ?_
      refine dM 61 func104 (λ_ hD28=>?_)
      refine Ae 3 ?_
      refine Nd (.int .i64 1) (.int .i64 1) ?_
      refine Ae 4 ?_
      refine Xy 60 3 1 r.homes.length (λxi=>AV.int (xi:Int)) (λxi=>AV.int (((Ma (dS r (Bk p r c k)) (List.range r.homes.length) 0).getD xi 0:Nat):Int)) (λx9 hx9=>by show AV.int _=AV.int _;rw[Ma,Wn hx9]) ?_
      refine Mf [0,1,2,3,8] (r.homes.length-1) (λi=>True) (λi=>⟨[(0,.osl 60 1 r.homes.length),(1,.int 0),(2,.int (r.homes.length:Int)),(3,.fn 42 [jD r (Bk p r c k)]),(8,.int ((i+1:Nat):Int))],[(50,.vec 52 3 n (λxi=>Cu ((Jl p r c k).getD xi Rl.none))),(60,.vec 3 1 r.homes.length (λxi=>AV.int (((Ma (dS r (Bk p r c k)) (List.range r.homes.length) i).getD xi 0:Nat):Int)))],61,53⟩) trivial (λi hin hFi J9 hJ9=>?_)
      refine Ae 8 ?_
      refine Ft 14 (((i+1:Nat):Int)<(r.homes.length:Int)) (λhx29 hx29d=>?_) (λhx29 hx29d=>?_)
      ·
       refine Ae 12 ?_
       refine lK [0,1,2,3,8,9] (λm s=>∃j L,m=j+1/\(Vr (dS r (Bk p r c k)) L j=Ma (dS r (Bk p r c k)) (List.range r.homes.length) (i+1)/\j<=i+1/\L.length=r.homes.length/\(∀x,x<r.homes.length->L.getD x 0<r.homes.length))/\s=⟨[(0,.osl 60 1 r.homes.length),(1,.int 0),(2,.int (r.homes.length:Int)),(3,.fn 42 [jD r (Bk p r c k)]),(8,.int ((i+1:Nat):Int)),(9,.int (j:Int))],[(50,.vec 52 3 n (λxi=>Cu ((Jl p r c k).getD xi Rl.none))),(60,.vec 3 1 r.homes.length (λxi=>AV.int (((L).getD xi 0:Nat):Int)))],61,53⟩) ((i+1)+1) ⟨i+1,(Ma (dS r (Bk p r c k)) (List.range r.homes.length) i),rfl,⟨rfl,Nat.le_refl _,by rw[Pg,List.length_range],gU r (Bk p r c k) (by omega)⟩,(by kernel_rfl)⟩ ?_
       rintro _ _ ⟨j,L,rfl,hF,rfl⟩ J10 hJ10
       obtain⟨hF1,hF2,hF3,hF4⟩:=hF
       refine Ae 2 ?_
       refine vsp ((0:Int)<(j:Int)) (λhx30 hx30d=>?_) (λhx30 hx30d=>?_)
       ·
        refine Kq [(2,.bool true,.none),(7,Fv (.osl 60 1 r.homes.length) j,.none),(8,.int (((L).getD j 0:Nat):Int),(.read 60)),(11,.int ((j-1:Nat):Int),.none),(12,Fv (.osl 60 1 r.homes.length) (j-1),.none),(13,.int (((L).getD (j-1) 0:Nat):Int),(.read 60)),(14,_,.none)] [0,1,2,3,8,9,34] ⟨lJ hx30,Ox j r.homes.length,Av (De 3 (.tmp 25) (by kernel_rfl) isAgg3 60 j 0 1 (by kernel_rfl) 3 r.homes.length (λxi=>AV.int (((L).getD xi 0:Nat):Int)) (by kernel_rfl) (by omega) (by decide)),Av (Cn (v:= .int .i64 (IntKind.wrap .i64 ((j:Int)-1))) (v':= .int .i64 ((j-1:Nat):Int)) _ (by kernel_rfl) rfl (by kernel_rfl) (λw=>by kernel_rfl) (congrArg (Value.int .i64) ((IntWalk.i64_in _ (by omega)).trans (by omega)))),Ox (j-1) r.homes.length,Av (De 3 (.tmp 30) (by kernel_rfl) isAgg3 60 (j-1) 0 1 (by kernel_rfl) 3 r.homes.length (λxi=>AV.int (((L).getD xi 0:Nat):Int)) (by kernel_rfl) (by omega) (by decide)),AcS (tN r (Bk p r c k) (L.getD j 0) (L.getD (j-1) 0) hg.2 (hF4 j (by omega)) (hF4 (j-1) (by omega)) hV),trivial⟩ ?_
        refine Ae 1 ?_
        refine Ft 34 (orI (Ki (Tk r (Bk p r c k) (L.getD j 0)) (Tk r (Bk p r c k) (L.getD (j-1) 0))) (Ki ((L.getD j 0:Nat):Int) ((L.getD (j-1) 0:Nat):Int))<0) (λhx31 hx31d=>?_) (λhx31 hx31d=>?_)
        ·
         refine Ae 5 ?_
         refine Kq [(4,.int ((j-1:Nat):Int),.none),(7,.int ((j-1:Nat):Int),.none),(8,Fv (.osl 60 1 r.homes.length) (j-1),.none),(9,.int (((L).getD (j-1) 0:Nat):Int),(.read 60)),(12,Fv (.osl 60 1 r.homes.length) j,.none),(13,.int (((L).getD j 0:Nat):Int),(.read 60)),(14,Fv (.osl 60 1 r.homes.length) j,.none),(15,.lit Go.undef,(.set 60 (.vec 3 1 r.homes.length (λxi=>if xi=j then .int (((L).getD (j-1) 0:Nat):Int) else (λxi=>AV.int (((L).getD xi 0:Nat):Int)) xi)))),(16,Fv (.osl 60 1 r.homes.length) (j-1),.none),(17,.lit Go.undef,(.set 60 (.vec 3 1 r.homes.length (λxi=>if xi=j-1 then .int (((L).getD j 0:Nat):Int) else (λxi=>if xi=j then .int (((L).getD (j-1) 0:Nat):Int) else (λxi=>AV.int (((L).getD xi 0:Nat):Int)) xi) xi))))] [0,1,2,3,8,9] ⟨Av (Cn (v:= .int .i64 (IntKind.wrap .i64 ((j:Int)-1))) (v':= .int .i64 ((j-1:Nat):Int)) _ (by kernel_rfl) rfl (by kernel_rfl) (λw=>by kernel_rfl) (congrArg (Value.int .i64) ((IntWalk.i64_in _ (by omega)).trans (by omega)))),Av (Cn (v:= .int .i64 (IntKind.wrap .i64 ((j:Int)-1))) (v':= .int .i64 ((j-1:Nat):Int)) _ (by kernel_rfl) rfl (by kernel_rfl) (λw=>by kernel_rfl) (congrArg (Value.int .i64) ((IntWalk.i64_in _ (by omega)).trans (by omega)))),Ox (j-1) r.homes.length,Av (De 3 (.tmp 45) (by kernel_rfl) isAgg3 60 (j-1) 0 1 (by kernel_rfl) 3 r.homes.length (λxi=>AV.int (((L).getD xi 0:Nat):Int)) (by kernel_rfl) (by omega) (by decide)),Ox j r.homes.length,Av (De 3 (.tmp 49) (by kernel_rfl) isAgg3 60 j 0 1 (by kernel_rfl) 3 r.homes.length (λxi=>AV.int (((L).getD xi 0:Nat):Int)) (by kernel_rfl) (by omega) (by decide)),Ox j r.homes.length,Av (Fp 3 (.tmp 51) (.tmp 46) (by kernel_rfl) 1 sizeOf3 60 j (by kernel_rfl) 3 r.homes.length (λxi=>AV.int (((L).getD xi 0:Nat):Int)) (by kernel_rfl) (by omega) (by kernel_rfl) (by kernel_rfl) (by kernel_rfl) (.int (((L).getD (j-1) 0:Nat):Int)) (by kernel_rfl)),Ox (j-1) r.homes.length,Av (Fp 3 (.tmp 52) (.tmp 50) (by kernel_rfl) 1 sizeOf3 60 (j-1) (by kernel_rfl) 3 r.homes.length (λxi=>if xi=j then .int (((L).getD (j-1) 0:Nat):Int) else (λxi=>AV.int (((L).getD xi 0:Nat):Int)) xi) (by kernel_rfl) (by omega) (by kernel_rfl) (by kernel_rfl) (by kernel_rfl) (.int (((L).getD j 0:Nat):Int)) (by kernel_rfl)),trivial⟩ ?_
         refine Ae 2 ?_
         refine Xy 60 3 1 r.homes.length (λxi=>if xi=j-1 then .int (((L).getD j 0:Nat):Int) else (λxi=>if xi=j then .int (((L).getD (j-1) 0:Nat):Int) else (λxi=>AV.int (((L).getD xi 0:Nat):Int)) xi) xi) (λxi=>AV.int (((Pj L (j-1)).getD xi 0:Nat):Int)) (λx9 hx9=>wG L j x9 (by omega) (by omega)) ?_
         refine Ae 2 ?_
         refine Fr ((j:Int)-1) ((j-1:Nat):Int) ?_
         refine Ae 2 ?_
         exact Om [0,1,2,3,8,9] (hJ10 _ _ (by omega:(j-1)+1<j+1) ⟨j-1,Pj L (j-1),rfl,⟨(fR (by omega) ((Zq r (Bk p r c k) (L.getD j 0) (L.getD (j-1) 0)).symm.trans hx31)).symm.trans hF1,by omega,by rw[Mn];exact hF3,by rw[<-hF3];exact gV (by omega) (by rw[hF3];exact hF4)⟩,rfl⟩)
        ·
         refine Ae 7 ?_
         have hL:L=Ma (dS r (Bk p r c k)) (List.range r.homes.length) (i+1):=(fS (by omega) ((Zq r (Bk p r c k) (L.getD j 0) (L.getD (j-1) 0)).symm.trans hx31)).symm.trans hF1
         subst hL
         refine Ae 2 ?_
         refine Fr (((i+1:Nat):Int)+1) ((i+1+1:Nat):Int) ?_
         refine Ae 2 ?_
         exact Om [0,1,2,3,8] (hJ9 (by omega) trivial)
       ·
        refine Kq [(2,.bool false,.none)] [0,1,2,3,8,9,34] ⟨lJ hx30,trivial⟩ ?_
        refine Ae 8 ?_
        have hL:L=Ma (dS r (Bk p r c k)) (List.range r.homes.length) (i+1):=(fT (by omega)).symm.trans hF1
        subst hL
        refine Ae 2 ?_
        refine Fr (((i+1:Nat):Int)+1) ((i+1+1:Nat):Int) ?_
        refine Ae 2 ?_
        exact Om [0,1,2,3,8] (hJ9 (by omega) trivial)
      ·
       refine Ae 5 ?_
       refine vrI (Ae 7 ?_)
       refine vrI (Ae 1 ?_)
       refine vrI (Ae 2 ?_)
       have hie:i=r.homes.length-1:=by omega
       subst hie
       refine Xy 60 3 1 r.homes.length (λxi=>AV.int (((Ma (dS r (Bk p r c k)) (List.range r.homes.length) (r.homes.length-1)).getD xi 0:Nat):Int)) (λxi=>AV.int (((Ee r (Bk p r c k)).getD xi 0:Nat):Int)) (λx9 hx9=>rfl) ?_
       refine dL 60 [17] 3 1 r.homes.length (λxi=>AV.int (((Ee r (Bk p r c k)).getD xi 0:Nat):Int)) (Hq λ_ _=>rfl) ?_
       refine Xy 50 52 3 n (λxi=>Cu ((Jl p r c k).getD xi Rl.none)) (λxi=>Cu ((Pb p r c k 0).getD xi Rl.none)) (λx9 hx9=>by rw[sO]) ?_
       refine Ae 8 ?_
       refine lK [3,4,5,8,10,15,29,30,31,63,64,65] (λm s=>∃y n2,y<=r.homes.length/\m=r.homes.length-y/\(n2=(Pb p r c k y).length/\n2<=k*128+y*16)/\((0<n2)/\s=⟨[(3,.elt 3 (λxi=>[Ga p.names,Ik p.homes,Ha p.acts].getD (0+xi) .top)),(4,Ue r),(5,.elt 2 (λxi=>[.int c.craft,.int c.act].getD (0+xi) .top)),(8,.osl 50 3 n2),(10,.int ((r.waits).getD k 0)),(15,Xj (Bk p r c k)),(29,Dg r.waits),(30,.int (r.waits.length:Int)),(31,.int (k:Int)),(63,.sl 1 r.homes.length (λxi=>AV.int (((Ee r (Bk p r c k)).getD xi 0:Nat):Int))),(64,.int (r.homes.length:Int)),(65,.int (y:Int))],[(50,.vec 52 3 n2 (λxi=>Cu ((Pb p r c k y).getD xi Rl.none)))],61,99⟩)) r.homes.length ⟨0,n,Nat.zero_le _,rfl,⟨by rw[sO];omega,by omega⟩,⟨hk0,(by kernel_rfl)⟩⟩ ?_
       rintro _ _ ⟨y,n2,hyn,rfl,hFy,(⟨hy0,rfl⟩)⟩ J11 hJ11
       ·
        refine Ae 6 ?_
        refine Ft 66 ((y:Int)<(r.homes.length:Int)) (λhx32 hx32d=>?_) (λhx32 hx32d=>?_)
        ·
         refine Ae 7 ?_
         refine Gn y r.homes.length ?_
         refine Ae 4 ?_
         have hom:=Wg r (Bk p r c k) (x:=y) (by omega)
         refine Xy 50 52 3 n2 (λxi=>Cu ((Pb p r c k y).getD xi Rl.none)) (λxi=>Cu ((Ez p r c k y 0).getD xi Rl.none)) (λx9 hx9=>by rw[cQ]) ?_
         refine Ae 9 ?_
         refine lK [3,4,5,8,10,15,20,29,30,31,63,64,65,70,71,72] (λm s=>∃u n3,u<=r.rises.length/\m=r.rises.length-u/\(n3=(Ez p r c k y u).length/\n3<=k*128+y*16+u)/\((0<n3)/\s=⟨[(3,.elt 3 (λxi=>[Ga p.names,Ik p.homes,Ha p.acts].getD (0+xi) .top)),(4,Ue r),(5,.elt 2 (λxi=>[.int c.craft,.int c.act].getD (0+xi) .top)),(8,.osl 50 3 n3),(10,.int ((r.waits).getD k 0)),(15,Xj (Bk p r c k)),(20,.int (((Ee r (Bk p r c k)).getD y 0:Nat):Int)),(29,Dg r.waits),(30,.int (r.waits.length:Int)),(31,.int (k:Int)),(63,.sl 1 r.homes.length (λxi=>AV.int (((Ee r (Bk p r c k)).getD xi 0:Nat):Int))),(64,.int (r.homes.length:Int)),(65,.int (y:Int)),(70,Dg r.rises),(71,.int (r.rises.length:Int)),(72,.int (u:Int))],[(50,.vec 52 3 n3 (λxi=>Cu ((Ez p r c k y u).getD xi Rl.none)))],61,99⟩)) r.rises.length ⟨0,n2,Nat.zero_le _,rfl,⟨by rw[cQ];omega,by omega⟩,⟨hy0,(by kernel_rfl)⟩⟩ ?_
         rintro _ _ ⟨u,n3,hun,rfl,hFu,(⟨hu0,rfl⟩)⟩ J12 hJ12
         ·
          refine Ae 6 ?_
          refine Ft 73 ((u:Int)<(r.rises.length:Int)) (λhx33 hx33d=>?_) (λhx33 hx33d=>?_)
          ·
           refine Ae 5 ?_
           have hris:=hg.2.2.2.2.2.2 u (by omega)
           refine Ae 2 ?_
           refine Gn u r.rises.length ?_
           refine Ae 9 ?_
           refine Gn ((Ee r (Bk p r c k)).getD y 0) r.homes.length ?_
           refine Ae 2 ?_
           refine Cz (Jq (r.homes.getD ((Ee r (Bk p r c k)).getD y 0) V3.zero) (r.rises.getD u 0) (hg.2.2.1 _ hom).1 ⟨hris.1,hris.2.1⟩) ?_
           refine Ae 1 ?_
           refine qN 83 (Kj (r.homes.getD ((Ee r (Bk p r c k)).getD y 0) V3.zero) (r.rises.getD u 0)) (λhx34=>?_) (λhx34=>?_)
           ·
            refine Ae 2 ?_
            refine Cz (Jq (Bk p r c k) (r.rises.getD u 0) hV ⟨hris.1,hris.2.1⟩) ?_
            refine Ae 3 ?_
            refine qN 87 (Kj (Bk p r c k) (r.rises.getD u 0)) (λhx35=>?_) (λhx35=>?_)
            ·
             refine Ae 7 ?_
             refine Ce (.osl 61 3 1) (.new 61 (.vec 52 3 1 (λ_=> .lit (.agg #[.int .i64 (((Ee r (Bk p r c k)).getD y 0:Nat):Int),.int .i64 ((r.waits).getD k 0),.int .i64 ((r.rises).getD u 0)])))) (Ak 45 1 #[(0,(.tmp 92))] (by kernel_rfl) underlying45 3 sizeOf52 _ zeroValue52 (by kernel_rfl) (Nat.le_of_ble_eq_true (by kernel_rfl)) (Nat.le_of_ble_eq_true (by kernel_rfl)) (Nat.le_of_ble_eq_true (by kernel_rfl)) 61 [.int (((Ee r (Bk p r c k)).getD y 0:Nat):Int),.int ((r.waits).getD k 0),.int ((r.rises).getD u 0)] (by kernel_rfl) (λ_=> .lit (.agg #[.int .i64 (((Ee r (Bk p r c k)).getD y 0:Nat):Int),.int .i64 ((r.waits).getD k 0),.int .i64 ((r.rises).getD u 0)])) (by kernel_rfl)) ?_
             refine Ce (.osl 62 3 (n3+1)) (.grow2 50 61 62 (.vec 52 3 (n3+1) (λxi=>Cu ((Ez p r c k y (u+1)).getD xi Rl.none)))) (Db (.tmp 88) (.tmp 93) 45 (by kernel_rfl) underlying45 3 24 (.agg #[.int .i64 0,.int .i64 0,.int .i64 0]) (by kernel_rfl) (by kernel_rfl) (by decide) n3 1 (by omega) (λxi=>Cu ((Ez p r c k y u).getD xi Rl.none)) (λ_=> .lit (.agg #[.int .i64 (((Ee r (Bk p r c k)).getD y 0:Nat):Int),.int .i64 ((r.waits).getD k 0),.int .i64 ((r.rises).getD u 0)])) (λxi=>Cu ((Ez p r c k y (u+1)).getD xi Rl.none)) 62 (by omega) (by unfold maxLen;omega) (λi hi=>by show Cu _=Cu _;rw[Ij hx34 hx35,Te,if_pos (by omega)]) (λi hi=>by(obtain rfl:i=0:=(by omega));show Cu _=Cu ⟨(((Ee r (Bk p r c k)).getD y 0:Nat):Int),r.waits.getD k 0,r.rises.getD u 0⟩;rw[Ij hx34 hx35,Te,if_neg (by omega),show n3+0-(Ez p r c k y u).length=0 by omega];rfl) (λi hi j hj=>match j,hj with|0,_=>rfl|1,_=>rfl|2,_=>rfl|_+3,h=>absurd h (by omega)) 50 (by kernel_rfl) (by kernel_rfl) 61 52 (by kernel_rfl) (by kernel_rfl)) ?_
             refine Ae 5 ?_
             refine Fr ((u:Int)+1) ((u+1:Nat):Int) ?_
             refine Ae 2 ?_
             exact Hu [3,4,5,8,10,15,20,29,30,31,63,64,65,70,71,72] [(62,50)] 61 0 hA0 [(52,3,1,(λ_=> .lit (.agg #[.int .i64 (((Ee r (Bk p r c k)).getD y 0:Nat):Int),.int .i64 ((r.waits).getD k 0),.int .i64 ((r.rises).getD u 0)]))),(52,3,n3+1,(λxi=>Cu ((Ez p r c k y (u+1)).getD xi Rl.none)))] ⟨(Hq λ_ _=>rfl),(Hq λ_ _=>rfl),trivial⟩ (hJ12 _ _ (by omega:r.rises.length-(u+1)<r.rises.length-u) ⟨u+1,n3+1,(by omega),rfl,⟨by rw[Ij hx34 hx35,List.length_append,List.length_singleton];omega,by omega⟩,⟨by omega,rfl⟩⟩)
            ·
             refine Ae 5 ?_
             refine Fr ((u:Int)+1) ((u+1:Nat):Int) ?_
             refine Ae 2 ?_
             refine Xy 50 52 3 n3 (λxi=>Cu ((Ez p r c k y u).getD xi Rl.none)) (λxi=>Cu ((Ez p r c k y (u+1)).getD xi Rl.none)) (λx9 hx9=>by rw[Fc (.inr hx35)]) ?_
             exact Om [3,4,5,8,10,15,20,29,30,31,63,64,65,70,71,72] (hJ12 _ _ (by omega:r.rises.length-(u+1)<r.rises.length-u) ⟨u+1,n3,(by omega),rfl,⟨by rw[Fc (.inr hx35)];omega,by omega⟩,⟨by omega,rfl⟩⟩)
           ·
            refine Ae 11 ?_
            refine Fr ((u:Int)+1) ((u+1:Nat):Int) ?_
            refine Ae 2 ?_
            refine Xy 50 52 3 n3 (λxi=>Cu ((Ez p r c k y u).getD xi Rl.none)) (λxi=>Cu ((Ez p r c k y (u+1)).getD xi Rl.none)) (λx9 hx9=>by rw[Fc (.inl hx34)]) ?_
            exact Om [3,4,5,8,10,15,20,29,30,31,63,64,65,70,71,72] (hJ12 _ _ (by omega:r.rises.length-(u+1)<r.rises.length-u) ⟨u+1,n3,(by omega),rfl,⟨by rw[Fc (.inl hx34)];omega,by omega⟩,⟨by omega,rfl⟩⟩)
          ·
           refine Ae 7 ?_
           refine Xy 50 52 3 n3 (λxi=>Cu ((Ez p r c k y u).getD xi Rl.none)) (λxi=>Cu ((Pb p r c k (y+1)).getD xi Rl.none)) (λx9 hx9=>by rw[<-Uo,show r.rises.length=u by omega]) ?_
           refine Ae 1 ?_
           refine Fr ((y:Int)+1) ((y+1:Nat):Int) ?_
           refine Ae 2 ?_
           exact Om [3,4,5,8,10,15,29,30,31,63,64,65] (hJ11 _ _ (by omega:r.homes.length-(y+1)<r.homes.length-y) ⟨y+1,n3,(by omega),rfl,⟨by rw[<-Uo,show r.rises.length=u by omega];omega,by omega⟩,⟨by omega,rfl⟩⟩)
        ·
         refine Ae 7 ?_
         refine Xy 50 52 3 n2 (λxi=>Cu ((Pb p r c k y).getD xi Rl.none)) (λxi=>Cu ((Jl p r c (k+1)).getD xi Rl.none)) (λx9 hx9=>by rw[<-cR hx23,show r.homes.length=y by omega]) ?_
         refine Ae 1 ?_
         refine Fr ((k:Int)+1) ((k+1:Nat):Int) ?_
         refine Ae 2 ?_
         exact Hu [3,4,5,8,29,30,31] [(50,50)] 51 0 hA0 [(52,3,n2,(λxi=>Cu ((Jl p r c (k+1)).getD xi Rl.none)))] ⟨(Hq λ_ _=>rfl),trivial⟩ (hJ1 _ _ (by omega:r.waits.length-(k+1)<r.waits.length-k) ⟨k+1,n2,(by omega),rfl,⟨by rw[<-cR hx23,show r.homes.length=y by omega];omega,by omega⟩,(.inr ⟨by omega,rfl⟩)⟩)
   ·
    refine Cz (Va hp hg.1 hcs hg.2 (by omega) hx23) ?_
    refine Ae 27 ?_
    refine Fr ((k:Int)+1) ((k+1:Nat):Int) ?_
    refine Ae 2 ?_
    refine Xy 50 52 3 n (λxi=>Cu ((Jl p r c k).getD xi Rl.none)) (λxi=>Cu ((Jl p r c (k+1)).getD xi Rl.none)) (λx9 hx9=>by rw[kU hx23]) ?_
    exact Hu [3,4,5,8,29,30,31] [(50,50)] 51 0 hA0 [(52,3,n,(λxi=>Cu ((Jl p r c (k+1)).getD xi Rl.none)))] ⟨(Hq λ_ _=>rfl),trivial⟩ (hJ1 _ _ (by omega:r.waits.length-(k+1)<r.waits.length-k) ⟨k+1,n,(by omega),rfl,⟨by rw[kU hx23];omega,by omega⟩,(.inr ⟨by omega,rfl⟩)⟩)
  ·
   refine Ae 13 ?_
   refine dL 50 [6] 52 3 n (λxi=>Cu ((Jl p r c k).getD xi Rl.none)) (Hq λ_ _=>rfl) ?_
   refine Ae 1 ?_
   exact Fw (.tup [.sl 3 n (λxi=>Cu ((Jl p r c k).getD xi Rl.none)),.int 0]) (by have hke:k=r.waits.length:=(by omega);subst hke;rw[vV,if_neg (by rw[Pc];omega),hFk.1];rfl)
abbrev Ae2 (p:Nat->Int) (m:Nat) (a b d:Int):Nat->Int:=cN p m a b d (m-1)
theorem lS (p:Nat->Int) (a b d:Int) (ha:Ct a) (hb:Ct b) (hd:Ct d) (hdp:0<d):AF Tryz.prog 158 [Be 0 p,WA a,WA b,WA d] (.lit (.tuple #[.slice none 0 0,.int .i64 0])):=by
 refine Cq func158 rfl λB D0 hA0=>?_
 refine Ae 13 ?_
 refine Cz (Pw 0 p (by omega) (λi hi=>absurd hi (Nat.not_lt_zero i)) (.inl rfl)) ?_
 refine Ae 3 ?_
 refine Cz (Jr _ (Hx ha)) ?_
 refine Ae 4 ?_
 refine Cz (Jr _ (Hx hb)) ?_
 refine Ae 4 ?_
 refine Cz (Jr _ (Hx hd)) ?_
 refine Ae 11 ?_
 refine Cz (Vc d (Hx hd)) ?_
 refine Ae 3 ?_
 refine Iw 37 (decide (d.sign<=0)) false (decide_eq_false (by rw[Int.sign_eq_one_of_pos hdp];decide)) ?_
 refine Ae 20 ?_
 exact Gx
theorem VR.nil_poly {E:Bl} {v:Value} {c:Nat->Int} {e:Int} (h:VR E (.lit (.tuple #[.slice none 0 0,.int .i64 e])) v):VR E (.tup [Be 0 c,.int e]) v:=by
 have:=h.lit_inv
 subst this
 refine .tup _ _ _ rfl λi hi=>?_
 match i,hi with
 |0,_=>exact .sl0 _ _ _ _ _
 |1,_=>exact .lit _ _
theorem Ua (m:Nat) (p:Nat->Int) (a b d:Int) (hm:m<=6) (hp:∀i,Ct (p i)) (hl:m=0\/p (m-1)≠0) (ha:Ct a) (hb:Ct b) (hd:Ct d) (hdp:0<d):AF Tryz.prog 158 [Be m p,WA a,WA b,WA d] (.tup [Be (Fk (Ae2 p m a b d) m) (Ae2 p m a b d),.int 0]):=by
 cases m with
 |zero=>exact Aaz (lS p a b d ha hb hd hdp) rfl (λ_ _ _ _ h=>h) λE v hv=>hv.nil_poly
 |succ k=>exact lT k p a b d (by omega) hp (hl.resolve_left (by omega)) ha hb hd hdp
abbrev dT (l:List Int):Nat:=Fk (Zk l) l.length
abbrev oN (l:List Int) (a b d:Int):Nat->Int:=Ae2 (Zk l) (dT l) a b d
abbrev oc (l:List Int) (a b d:Int) (i:Nat):Int:=oN l a b d i*d^(6-l.length)
abbrev on (l:List Int) (a b d:Int):Nat:=Fk (oc l a b d) (Fk (oN l a b d) (dT l))
theorem jZ {l:List Int} (h:∀i,Ct (l.getD i 0)) (hn:l.length<=6) {a b d:Int} (ha:Ct a) (hb:Ct b) (hd:Ct d) (i:Nat):Bd 500 (oN l a b d i):=by
 have:dT l<=l.length:=Hp (Zk l) l.length
 exact(mX h ha hb hd _ i).mono (by omega)
theorem fZ {l:List Int} (h:∀i,Ct (l.getD i 0)) (hn:l.length<=6) {a b d:Int} (ha:Ct a) (hb:Ct b) (hd:Ct d) (i:Nat):Bd 1000 (oc l a b d i):=
 ((jZ h hn ha hb hd i).mul ((Bd.int hd.1 hd.2).pow (6-l.length))).mono (by omega)
theorem AbC (l:List Int) (a b d:Int) (hn:l.length<=6):on l a b d<=6:=Nat.le_trans (Hp _ _) (Nat.le_trans (Hp _ _) (Nat.le_trans (Hp _ _) hn))
abbrev Fe (l:List Int) (a b d:Int):AV:=Be (on l a b d) (oc l a b d)
theorem lU (s:Sg) (a b d:Int) (hs:Uc s) (hx0:0<s.x.length) (hx6:s.x.length<=6) (hy0:0<s.y.length) (hy6:s.y.length<=6) (hz0:0<s.z.length) (hz6:s.z.length<=6) (ha:Ct a) (hb:Ct b) (hd:Ct d) (hdp:0<d):AF Tryz.prog 141 [Bq s,.int a,.int b,.int d] (.agg [Fe s.x a b d,Fe s.y a b d,Fe s.z a b d]):=by
 have hlx:dT s.x<=s.x.length:=Hp (Zk s.x) s.x.length
 have hly:dT s.y<=s.y.length:=Hp (Zk s.y) s.y.length
 have hlz:dT s.z<=s.z.length:=Hp (Zk s.z) s.z.length
 refine Cq func141 rfl λB D0 hA0=>?_
 refine Ae 10 ?_
 refine Cz (tM s) ?_
 refine Ae 4 ?_
 refine vul 3 ?_
 refine Ae 14 ?_
 refine Ce (Ao s.x) .none (Dm 147 (.tmp 14) (.tmp 15) (by kernel_rfl) underlying147 1 sizeOf23 0 false isAgg23 [Ao s.x,Ao s.y,Ao s.z] 0 (by kernel_rfl) (by kernel_rfl) (by omega) (by decide) (Nat.le_of_ble_eq_true (by kernel_rfl)) (by decide) (Ao s.x) (by kernel_rfl)) ?_
 refine Ae 7 ?_
 refine Cz (Xb s.x hx0 (by omega) hs.x) ?_
 refine Ae 11 ?_
 refine Cz (Gp a ha.1 ha.2) ?_
 refine Ae 1 ?_
 refine Cz (Gp b hb.1 hb.2) ?_
 refine Ae 1 ?_
 refine Cz (Gp d hd.1 hd.2) ?_
 refine Cz (Ua (dT s.x) (Zk s.x) a b d (by omega) hs.x (Jo _ _) ha hb hd hdp) ?_
 refine Ae 12 ?_
 refine Fr ((6:Int)-(s.x.length:Int)) ((6-s.x.length:Nat):Int) ?_
 refine Cz (Gh d (6-s.x.length) hd.1 hd.2 (by omega) (λj hj=>El hd (by omega))) ?_
 refine Cz (aJ (Fk (oN s.x a b d) (dT s.x)) (oN s.x a b d) (d^(6-s.x.length)) (by have:=Hp (oN s.x a b d) (dT s.x);omega) (λi _=>(jZ hs.x hx6 ha hb hd i).fit (by omega)) (Jo _ _) (El hd (by omega)) (λi _=>(fZ hs.x hx6 ha hb hd i).fit (by omega))) ?_
 refine Ae 3 ?_
 refine Ce (.ptr 1 0) .none (Bx 203 (.tmp 8) (.tmp 36) (by kernel_rfl) underlying203 1 0 1 0 0 (by kernel_rfl) (by kernel_rfl) sizeOf202 (by decide) (by omega) (by decide)) ?_
 refine Ae 5 ?_
 refine Nd (.int .i64 1) (.int .i64 1) ?_
 refine Ae 17 ?_
 refine Ce (Ao s.y) .none (Dm 147 (.tmp 14) (.tmp 15) (by kernel_rfl) underlying147 1 sizeOf23 1 false isAgg23 [Ao s.x,Ao s.y,Ao s.z] 1 (by kernel_rfl) (by kernel_rfl) (by omega) (by decide) (Nat.le_of_ble_eq_true (by kernel_rfl)) (by decide) (Ao s.y) (by kernel_rfl)) ?_
 refine Ae 7 ?_
 refine Cz (Xb s.y hy0 (by omega) hs.y) ?_
 refine Ae 11 ?_
 refine Cz (Gp a ha.1 ha.2) ?_
 refine Ae 1 ?_
 refine Cz (Gp b hb.1 hb.2) ?_
 refine Ae 1 ?_
 refine Cz (Gp d hd.1 hd.2) ?_
 refine Cz (Ua (dT s.y) (Zk s.y) a b d (by omega) hs.y (Jo _ _) ha hb hd hdp) ?_
 refine Ae 12 ?_
 refine Fr ((6:Int)-(s.y.length:Int)) ((6-s.y.length:Nat):Int) ?_
 refine Cz (Gh d (6-s.y.length) hd.1 hd.2 (by omega) (λj hj=>El hd (by omega))) ?_
 refine Cz (aJ (Fk (oN s.y a b d) (dT s.y)) (oN s.y a b d) (d^(6-s.y.length)) (by have:=Hp (oN s.y a b d) (dT s.y);omega) (λi _=>(jZ hs.y hy6 ha hb hd i).fit (by omega)) (Jo _ _) (El hd (by omega)) (λi _=>(fZ hs.y hy6 ha hb hd i).fit (by omega))) ?_
 refine Ae 3 ?_
 refine Ce (.ptr 1 1) .none (Bx 203 (.tmp 8) (.tmp 36) (by kernel_rfl) underlying203 1 0 1 1 1 (by kernel_rfl) (by kernel_rfl) sizeOf202 (by decide) (by omega) (by decide)) ?_
 refine Ae 5 ?_
 refine Nd (.int .i64 2) (.int .i64 2) ?_
 refine Ae 17 ?_
 refine Ce (Ao s.z) .none (Dm 147 (.tmp 14) (.tmp 15) (by kernel_rfl) underlying147 1 sizeOf23 2 false isAgg23 [Ao s.x,Ao s.y,Ao s.z] 2 (by kernel_rfl) (by kernel_rfl) (by omega) (by decide) (Nat.le_of_ble_eq_true (by kernel_rfl)) (by decide) (Ao s.z) (by kernel_rfl)) ?_
 refine Ae 7 ?_
 refine Cz (Xb s.z hz0 (by omega) hs.z) ?_
 refine Ae 11 ?_
 refine Cz (Gp a ha.1 ha.2) ?_
 refine Ae 1 ?_
 refine Cz (Gp b hb.1 hb.2) ?_
 refine Ae 1 ?_
 refine Cz (Gp d hd.1 hd.2) ?_
 refine Cz (Ua (dT s.z) (Zk s.z) a b d (by omega) hs.z (Jo _ _) ha hb hd hdp) ?_
 refine Ae 12 ?_
 refine Fr ((6:Int)-(s.z.length:Int)) ((6-s.z.length:Nat):Int) ?_
 refine Cz (Gh d (6-s.z.length) hd.1 hd.2 (by omega) (λj hj=>El hd (by omega))) ?_
 refine Cz (aJ (Fk (oN s.z a b d) (dT s.z)) (oN s.z a b d) (d^(6-s.z.length)) (by have:=Hp (oN s.z a b d) (dT s.z);omega) (λi _=>(jZ hs.z hz6 ha hb hd i).fit (by omega)) (Jo _ _) (El hd (by omega)) (λi _=>(fZ hs.z hz6 ha hb hd i).fit (by omega))) ?_
 refine Ae 3 ?_
 refine Ce (.ptr 1 2) .none (Bx 203 (.tmp 8) (.tmp 36) (by kernel_rfl) underlying203 1 0 1 2 2 (by kernel_rfl) (by kernel_rfl) sizeOf202 (by decide) (by omega) (by decide)) ?_
 refine Ae 5 ?_
 refine Nd (.int .i64 3) (.int .i64 3) ?_
 refine Ae 22 ?_
 exact Gx
def gF (c:Nat->Int) (g:Int):Nat->Int
 |0=>g
 |k+1=>(Nat.gcd (gF c g k).natAbs (c k).natAbs:Int)
theorem uT {c:Nat->Int} {g:Int} {n:Nat} (hg:Bd 1000 g) (hc:∀i,i<n->Bd 1000 (c i)):∀k,k<=n->Bd 1000 (gF c g k)
 |0,_=>hg
 |k+1,h=>(uT hg hc k (by omega)).gcd (hc k (by omega))
theorem jQ {c:Nat->Int} {g:Int} (hg:0<g):∀k,0<gF c g k
 |0=>hg
 |k+1=>by
  have h1:=jQ (c:=c) hg k
  have:0<Nat.gcd (gF c g k).natAbs (c k).natAbs:=Nat.gcd_pos_of_pos_left _ (by omega)
  rw[gF];omega
def iR (z:Int):Int:=if -9223372036854775808<=z/\z<=9223372036854775807 then z else 0
def iE (z:Int):Int:=if -9223372036854775808<=z/\z<=9223372036854775807 then 0 else 3
theorem Afv {z:Int} (h:Ct z):iR z=z:=if_pos h
theorem Mp (z:Int) (h:Fg z):AF Tryz.prog 68 [WA z] (.lit (.tuple #[.int .i64 (iR z),.int .i64 (iE z)])):=Ji (vs:=[_]) λw=>by
 unfold iR iE
 by_cases h0: -9223372036854775808<=z/\z<=9223372036854775807
 rw[if_pos h0,if_pos h0];exact Acu z w h0.1 h0.2
 rw[if_neg h0,if_neg h0];exact qD z w h h0
theorem mG (x y:Int) (hx:Fg x) (hy:Fg y):AF Tryz.prog 147 [WA x,WA y] (.int (x-y).sign):=Ji (vs:=[_,_]) λw=>Wy x y w hx hy
def Jj (n:Nat) (c:Nat->Int) (g:Int) (i:Nat):Int:=if i<n then iR (c i/g) else 0
def gM (nx ny nz:Nat) (cx cy cz:Nat->Int) (o:Int):Int:=gF cz (gF cy (gF cx o nx) ny) nz
abbrev sB:Ck:= .box 81 [.int 0,.int 0,.int 0,.lit (.slice none 0 0),.lit (.slice none 0 0),.lit (.slice none 0 0)]
def Yq (f t:Int) (nx ny nz:Nat) (cx cy cz:Nat->Int) (o:Int):AV:=if (0:Int)<(o/gM nx ny nz cx cy cz o-4294967296).sign then .lit (.tuple #[.agg #[.int .i64 f,.int .i64 t,.int .i64 0,.slice none 0 0,.slice none 0 0,.slice none 0 0],.bool false]) else .tup [.agg [.int f,.int t,.int (iR (o/gM nx ny nz cx cy cz o)),.sl 1 (max nx 1) (λxi=> .int (Jj nx cx (gM nx ny nz cx cy cz o) xi)),.sl 1 (max ny 1) (λxi=> .int (Jj ny cy (gM nx ny nz cx cy cz o) xi)),.sl 1 (max nz 1) (λxi=> .int (Jj nz cz (gM nx ny nz cx cy cz o) xi))],.bool true]
theorem Ac8 (f t:Int) (nx ny nz:Nat) (cx cy cz:Nat->Int) (o:Int) (hnx:nx<=6) (hny:ny<=6) (hnz:nz<=6) (hx:∀i,i<nx->Bd 1000 (cx i)) (hy:∀i,i<ny->Bd 1000 (cy i)) (hz:∀i,i<nz->Bd 1000 (cz i)) (bo:Bd 1000 o) (ho:0<o):AF Tryz.prog 140 [.int f,.int t,.agg [Be nx cx,Be ny cy,Be nz cz],WA o] (Yq f t nx ny nz cx cy cz o):=by
 have b0:=bo
 have bx:=uT b0 hx
 have b1:=bx nx (Nat.le_refl _)
 have bY:=uT b1 hy
 have b2:=bY ny (Nat.le_refl _)
 have bz:=uT b2 hz
 have bG:Bd 1000 (gM nx ny nz cx cy cz o):=bz nz (Nat.le_refl _)
 have pG:0<gM nx ny nz cx cy cz o:=jQ (jQ (jQ ho nx) ny) nz
 have hk:=Gp 4294967296 (by decide) (by decide)
 have h32:Fg 4294967296:=Jf (by decide) (by decide)
 refine Cq func140 rfl λB D0 hA0=>?_
 refine Ae 23 ?_
 refine vul 3 ?_
 refine Ae 13 ?_
 refine Ce (Be nx cx) .none (Dm 203 (.tmp 24) (.tmp 25) (by kernel_rfl) underlying203 1 sizeOf202 0 false isAgg202 [Be nx cx,Be ny cy,Be nz cz] 0 (by kernel_rfl) (by kernel_rfl) (by omega) (by decide) (Nat.le_of_ble_eq_true (by kernel_rfl)) (by decide) (Be nx cx) (by kernel_rfl)) ?_
 refine Ae 11 ?_
 refine Aac (keep:=[0,1,6,7,8,10,24,25,28,29,30]) nx (λk=>⟨[(0,.int f),(1,.int t),(6,.ptr 0 0),(7,.ptr 1 0),(8,.ptr 2 0),(10,.ptr 3 0),(24,.agg [Be nx cx,Be ny cy,Be nz cz]),(25,.int 0),(28,Be nx cx),(29,.int (nx:Int)),(30,.int (k:Int))],[(0,.box 203 [Be nx cx,Be ny cy,Be nz cz]),(1,wB o),(2,sB),(3,wB (gF cx o k))],4,98⟩) (λk hk J1 hJ1=>?_) ?_
 ·
  refine Ae 3 ?_
  refine Iw 31 (decide ((k:Int)<(nx:Int))) true (decide_eq_true (by omega)) ?_
  refine Ae 10 ?_
  refine Gn k nx ?_
  refine Ae 8 ?_
  refine Cz (Sr _ _ ((bx k (by omega)).fit (by omega)) ((hx k (by omega)).fit (by omega))) ?_
  refine Ae 5 ?_
  refine Fr ((k:Int)+1) ((k+1:Nat):Int) ?_
  refine Ae 2 ?_
  exact Hu [0,1,6,7,8,10,24,25,28,29,30] [(0,0),(1,1),(2,2),(3,3)] 4 0 hA0 [] trivial hJ1
 ·
  refine Ae 3 ?_
  refine Iw 31 (decide ((nx:Int)<(nx:Int))) false (decide_eq_false (by omega)) ?_
  refine Ae 11 ?_
  refine Nd (.int .i64 1) (.int .i64 1) ?_
  refine Ae 16 ?_
  refine Ce (Be ny cy) .none (Dm 203 (.tmp 24) (.tmp 25) (by kernel_rfl) underlying203 1 sizeOf202 1 false isAgg202 [Be nx cx,Be ny cy,Be nz cz] 1 (by kernel_rfl) (by kernel_rfl) (by omega) (by decide) (Nat.le_of_ble_eq_true (by kernel_rfl)) (by decide) (Be ny cy) (by kernel_rfl)) ?_
  refine Ae 11 ?_
  refine Aac (keep:=[0,1,6,7,8,10,24,25,28,29,30]) ny (λk=>⟨[(0,.int f),(1,.int t),(6,.ptr 0 0),(7,.ptr 1 0),(8,.ptr 2 0),(10,.ptr 3 0),(24,.agg [Be nx cx,Be ny cy,Be nz cz]),(25,.int 1),(28,Be ny cy),(29,.int (ny:Int)),(30,.int (k:Int))],[(0,.box 203 [Be nx cx,Be ny cy,Be nz cz]),(1,wB o),(2,sB),(3,wB (gF cy (gF cx o nx) k))],4,98⟩) (λk hk J2 hJ2=>?_) ?_
  ·
   refine Ae 3 ?_
   refine Iw 31 (decide ((k:Int)<(ny:Int))) true (decide_eq_true (by omega)) ?_
   refine Ae 10 ?_
   refine Gn k ny ?_
   refine Ae 8 ?_
   refine Cz (Sr _ _ ((bY k (by omega)).fit (by omega)) ((hy k (by omega)).fit (by omega))) ?_
   refine Ae 5 ?_
   refine Fr ((k:Int)+1) ((k+1:Nat):Int) ?_
   refine Ae 2 ?_
   exact Hu [0,1,6,7,8,10,24,25,28,29,30] [(0,0),(1,1),(2,2),(3,3)] 4 0 hA0 [] trivial hJ2
  ·
   refine Ae 3 ?_
   refine Iw 31 (decide ((ny:Int)<(ny:Int))) false (decide_eq_false (by omega)) ?_
   refine Ae 11 ?_
   refine Nd (.int .i64 2) (.int .i64 2) ?_
   refine Ae 16 ?_
   refine Ce (Be nz cz) .none (Dm 203 (.tmp 24) (.tmp 25) (by kernel_rfl) underlying203 1 sizeOf202 2 false isAgg202 [Be nx cx,Be ny cy,Be nz cz] 2 (by kernel_rfl) (by kernel_rfl) (by omega) (by decide) (Nat.le_of_ble_eq_true (by kernel_rfl)) (by decide) (Be nz cz) (by kernel_rfl)) ?_
   refine Ae 11 ?_
   refine Aac (keep:=[0,1,6,7,8,10,24,25,28,29,30]) nz (λk=>⟨[(0,.int f),(1,.int t),(6,.ptr 0 0),(7,.ptr 1 0),(8,.ptr 2 0),(10,.ptr 3 0),(24,.agg [Be nx cx,Be ny cy,Be nz cz]),(25,.int 2),(28,Be nz cz),(29,.int (nz:Int)),(30,.int (k:Int))],[(0,.box 203 [Be nx cx,Be ny cy,Be nz cz]),(1,wB o),(2,sB),(3,wB (gF cz (gF cy (gF cx o nx) ny) k))],4,98⟩) (λk hk J3 hJ3=>?_) ?_
   ·
    refine Ae 3 ?_
    refine Iw 31 (decide ((k:Int)<(nz:Int))) true (decide_eq_true (by omega)) ?_
    refine Ae 10 ?_
    refine Gn k nz ?_
    refine Ae 8 ?_
    refine Cz (Sr _ _ ((bz k (by omega)).fit (by omega)) ((hz k (by omega)).fit (by omega))) ?_
    refine Ae 5 ?_
    refine Fr ((k:Int)+1) ((k+1:Nat):Int) ?_
    refine Ae 2 ?_
    exact Hu [0,1,6,7,8,10,24,25,28,29,30] [(0,0),(1,1),(2,2),(3,3)] 4 0 hA0 [] trivial hJ3
   ·
    refine Ae 3 ?_
    refine Iw 31 (decide ((nz:Int)<(nz:Int))) false (decide_eq_false (by omega)) ?_
    refine Ae 11 ?_
    refine Nd (.int .i64 3) (.int .i64 3) ?_
    refine Ae 28 ?_
    refine Cz (Kf _ _ (bo.fit (by omega)) (bG.fit (by omega)) (by omega)) ?_
    refine Ae 6 ?_
    refine Kq [(1,_,.none),(2,_,.none)] [6,8,10,15,16,48] ⟨Hw hk,Hw (mG (o/(gM nx ny nz cx cy cz o)) 4294967296 ((bo.div _).fit (by omega)) h32),trivial⟩ ?_
    refine Ae 1 ?_
    refine Ft 48 ((0:Int)<(o/gM nx ny nz cx cy cz o-4294967296).sign) (λhx1 hx1d=>?_) (λhx1 hx1d=>?_)
    ·
     refine Ae 10 ?_
     exact Fw (.lit (.tuple #[.agg #[.int .i64 f,.int .i64 t,.int .i64 0,.slice none 0 0,.slice none 0 0,.slice none 0 0],.bool false])) (show (.lit _:AV)=_ by unfold Yq;rw[if_pos hx1d])
    ·
     refine Ae 6 ?_
     refine Cz (Mp (o/(gM nx ny nz cx cy cz o)) ((bo.div _).fit (by omega))) ?_
     refine Ae 18 ?_
     refine vul 3 ?_
     refine Ae 9 ?_
     refine vjn ⟨[(6,.ptr 0 0),(8,.ptr 2 0),(10,.ptr 3 0),(15,.ptr 4 0),(59,.agg [.ptr 4 3,.ptr 4 4,.ptr 4 5]),(60,.int 0)],[(0,.box 203 [Be nx cx,Be ny cy,Be nz cz]),(1,wB o),(2,sB),(3,wB (gM nx ny nz cx cy cz o)),(4,.box 81 [.int f,.int t,.int (iR (o/(gM nx ny nz cx cy cz o))),.sl 1 (max nx 1) (λxi=> .int (Jj nx cx (gM nx ny nz cx cy cz o) xi)),.lit (.slice none 0 0),.lit (.slice none 0 0)]),(5,wB (o/(gM nx ny nz cx cy cz o)))],30,98⟩ ?_ (λJ4 hJ4=>?_)
     ·
      refine Ae 1 ?_
      refine Nd (.int .i64 1) (.int .i64 1) ?_
      refine Ae 12 ?_
      refine vjn ⟨[(6,.ptr 0 0),(8,.ptr 2 0),(10,.ptr 3 0),(15,.ptr 4 0),(59,.agg [.ptr 4 3,.ptr 4 4,.ptr 4 5]),(60,.int 1)],[(0,.box 203 [Be nx cx,Be ny cy,Be nz cz]),(1,wB o),(2,sB),(3,wB (gM nx ny nz cx cy cz o)),(4,.box 81 [.int f,.int t,.int (iR (o/(gM nx ny nz cx cy cz o))),.sl 1 (max nx 1) (λxi=> .int (Jj nx cx (gM nx ny nz cx cy cz o) xi)),.sl 1 (max ny 1) (λxi=> .int (Jj ny cy (gM nx ny nz cx cy cz o) xi)),.lit (.slice none 0 0)]),(5,wB (o/(gM nx ny nz cx cy cz o)))],32,98⟩ ?_ (λJ5 hJ5=>?_)
      ·
       refine Ae 1 ?_
       refine Nd (.int .i64 2) (.int .i64 2) ?_
       refine Ae 12 ?_
       refine vjn ⟨[(6,.ptr 0 0),(8,.ptr 2 0),(10,.ptr 3 0),(15,.ptr 4 0),(59,.agg [.ptr 4 3,.ptr 4 4,.ptr 4 5]),(60,.int 2)],[(0,.box 203 [Be nx cx,Be ny cy,Be nz cz]),(1,wB o),(2,sB),(3,wB (gM nx ny nz cx cy cz o)),(4,.box 81 [.int f,.int t,.int (iR (o/(gM nx ny nz cx cy cz o))),.sl 1 (max nx 1) (λxi=> .int (Jj nx cx (gM nx ny nz cx cy cz o) xi)),.sl 1 (max ny 1) (λxi=> .int (Jj ny cy (gM nx ny nz cx cy cz o) xi)),.sl 1 (max nz 1) (λxi=> .int (Jj nz cz (gM nx ny nz cx cy cz o) xi))]),(5,wB (o/(gM nx ny nz cx cy cz o)))],34,98⟩ ?_ (λJ6 hJ6=>?_)
       ·
        refine Ae 1 ?_
        refine Nd (.int .i64 3) (.int .i64 3) ?_
        refine Ae 23 ?_
        exact Fw (.tup [.agg [.int f,.int t,.int (iR (o/(gM nx ny nz cx cy cz o))),.sl 1 (max nx 1) (λxi=> .int (Jj nx cx (gM nx ny nz cx cy cz o) xi)),.sl 1 (max ny 1) (λxi=> .int (Jj ny cy (gM nx ny nz cx cy cz o) xi)),.sl 1 (max nz 1) (λxi=> .int (Jj nz cz (gM nx ny nz cx cy cz o) xi))],.bool true]) (show (.tup [.agg [_,_,_,_,_,_],_]:AV)=_ by unfold Yq;rw[if_neg hx1d])
       ·
        refine Ae 4 ?_
        refine Ce (.ptr 4 5) .none (Dm 222 (.tmp 59) (.tmp 60) (by kernel_rfl) underlying222 1 sizeOf221 2 false isAgg221 [.ptr 4 3,.ptr 4 4,.ptr 4 5] 2 (by kernel_rfl) (by kernel_rfl) (by omega) (by decide) (Nat.le_of_ble_eq_true (by kernel_rfl)) (by decide) (.ptr 4 5) (by kernel_rfl)) ?_
        refine Ae 8 ?_
        refine Ce (.ptr 0 2) .none (Bx 203 (.tmp 6) (.tmp 64) (by kernel_rfl) underlying203 0 0 1 2 2 (by kernel_rfl) (by kernel_rfl) sizeOf202 (by decide) (by omega) (by decide)) ?_
        refine Ae 6 ?_
        refine lK [6,8,10,15,18,59,60,66,67,68] (λm s=>∃k,k<=nz/\m=nz-k/\True/\((k=0/\s=⟨[(6,.ptr 0 0),(8,.ptr 2 0),(10,.ptr 3 0),(15,.ptr 4 0),(18,.ptr 4 5),(59,.agg [.ptr 4 3,.ptr 4 4,.ptr 4 5]),(60,.int 2),(66,Be nz cz),(67,.int (nz:Int)),(68,.int ((0:Nat):Int))],[(0,.box 203 [Be nx cx,Be ny cy,Be nz cz]),(1,wB o),(2,sB),(3,wB (gM nx ny nz cx cy cz o)),(4,.box 81 [.int f,.int t,.int (iR (o/(gM nx ny nz cx cy cz o))),.sl 1 (max nx 1) (λxi=> .int (Jj nx cx (gM nx ny nz cx cy cz o) xi)),.sl 1 (max ny 1) (λxi=> .int (Jj ny cy (gM nx ny nz cx cy cz o) xi)),.lit (.slice none 0 0)]),(5,wB (o/(gM nx ny nz cx cy cz o)))],32,98⟩)\/(0<k/\s=⟨[(6,.ptr 0 0),(8,.ptr 2 0),(10,.ptr 3 0),(15,.ptr 4 0),(18,.ptr 4 5),(59,.agg [.ptr 4 3,.ptr 4 4,.ptr 4 5]),(60,.int 2),(66,Be nz cz),(67,.int (nz:Int)),(68,.int (k:Int))],[(0,.box 203 [Be nx cx,Be ny cy,Be nz cz]),(1,wB o),(2,sB),(3,wB (gM nx ny nz cx cy cz o)),(4,.box 81 [.int f,.int t,.int (iR (o/(gM nx ny nz cx cy cz o))),.sl 1 (max nx 1) (λxi=> .int (Jj nx cx (gM nx ny nz cx cy cz o) xi)),.sl 1 (max ny 1) (λxi=> .int (Jj ny cy (gM nx ny nz cx cy cz o) xi)),.osl 20 1 k]),(5,wB (o/(gM nx ny nz cx cy cz o))),(20,.vec 3 1 k (λxi=> .int (Jj nz cz (gM nx ny nz cx cy cz o) xi)))],21,98⟩))) nz ⟨0,Nat.zero_le _,rfl,trivial,.inl ⟨rfl,(by kernel_rfl)⟩⟩ ?_
        rintro _ _ ⟨k,hkn,rfl,hFk,(⟨hk0,rfl⟩|⟨hk0,rfl⟩)⟩ J7 hJ7
        ·
         subst hk0
         refine Ae 6 ?_
         refine Ft 69 (((0:Nat):Int)<(nz:Int)) (λhx2 hx2d=>?_) (λhx2 hx2d=>?_)
         ·
          refine Ae 7 ?_
          refine Gn 0 nz ?_
          refine Ae 9 ?_
          refine Cz (Kf (cz 0) (gM nx ny nz cx cy cz o) ((hz _ (by omega)).fit (by omega)) (bG.fit (by omega)) (by omega)) ?_
          refine Cz (Mp (cz 0/(gM nx ny nz cx cy cz o)) (((hz _ (by omega)).div _).fit (by omega))) ?_
          refine Ae 13 ?_
          refine Ce (.osl 33 1 1) (.new 33 (.vec 3 1 1 (λ_=> .int (iR (cz 0/(gM nx ny nz cx cy cz o)))))) (Ak 23 1 #[(0,(.tmp 83))] (by kernel_rfl) underlying23 1 sizeOf3 _ zeroValue3 (by kernel_rfl) (Nat.le_of_ble_eq_true (by kernel_rfl)) (Nat.le_of_ble_eq_true (by kernel_rfl)) (Nat.le_of_ble_eq_true (by kernel_rfl)) 33 [.int (iR (cz 0/(gM nx ny nz cx cy cz o)))] (by kernel_rfl) (λ_=> .int (iR (cz 0/(gM nx ny nz cx cy cz o)))) (by kernel_rfl)) ?_
          refine Ce (.osl 34 1 1) (.newr 33 34 (.vec 3 1 1 (λxi=> .int (Jj nz cz (gM nx ny nz cx cy cz o) xi)))) (Cr (.tmp 82) (.tmp 84) 23 (by kernel_rfl) underlying23 1 8 (.int .i64 0) (by kernel_rfl) (by kernel_rfl) (by decide) 1 (by omega) (λ_=> .int (iR (cz 0/(gM nx ny nz cx cy cz o)))) (λxi=> .int (Jj nz cz (gM nx ny nz cx cy cz o) xi)) 34 (λi hi=>by(obtain rfl:i=0:=(by omega));show AV.int (Jj _ _ _ _)=_;rw[Jj,if_pos (by omega)]<;>rfl) (λi hi j hj=>by obtain rfl:j=0:=(by omega);rfl) (by unfold maxLen;omega) (by omega) (by kernel_rfl) 33 3 (by kernel_rfl) (by kernel_rfl)) ?_
          refine Ae 6 ?_
          refine Fr (((0:Nat):Int)+1) ((0+1:Nat):Int) ?_
          refine Ae 2 ?_
          exact Hu [6,8,10,15,18,59,60,66,67,68] [(0,0),(1,1),(2,2),(3,3),(4,4),(5,5),(34,20)] 21 0 hA0 [(3,1,1,(λ_=> .int (iR (cz 0/(gM nx ny nz cx cy cz o))))),(3,1,1,(λxi=> .int (Jj nz cz (gM nx ny nz cx cy cz o) xi)))] ⟨(Hq λ_ _=>rfl),(Hq λ_ _=>rfl),trivial⟩ (hJ7 _ _ (by omega:nz-(0+1)<nz-0) ⟨0+1,(by omega),rfl,trivial,.inr ⟨Nat.succ_pos _,rfl⟩⟩)
         ·
          refine Ae 6 ?_
          refine Aaf 33 ?_
          refine Ae 12 ?_
          refine Ce (.osl 33 1 1) (.new 33 (.vec 3 1 1 (λ_=> .int 0))) (Ak 23 1 #[(0,(.const (.int .i64 0)))] (by kernel_rfl) underlying23 1 sizeOf3 _ zeroValue3 (by kernel_rfl) (Nat.le_of_ble_eq_true (by kernel_rfl)) (Nat.le_of_ble_eq_true (by kernel_rfl)) (Nat.le_of_ble_eq_true (by kernel_rfl)) 33 [.int 0] (by kernel_rfl) (λ_=> .int 0) (by kernel_rfl)) ?_
          refine dL 33 [94] 3 1 1 (λ_=> .int 0) (Hq λ_ _=>rfl) ?_
          refine Ae 4 ?_
          exact Om [6,8,10,15,59,60] hJ6 (hs:=(by rw[show nz=0 by omega];kernel_rfl))
        ·
         refine Ae 6 ?_
         refine Ft 69 ((k:Int)<(nz:Int)) (λhx3 hx3d=>?_) (λhx3 hx3d=>?_)
         ·
          refine Ae 7 ?_
          refine Gn k nz ?_
          refine Ae 9 ?_
          refine Cz (Kf (cz k) (gM nx ny nz cx cy cz o) ((hz _ (by omega)).fit (by omega)) (bG.fit (by omega)) (by omega)) ?_
          refine Cz (Mp (cz k/(gM nx ny nz cx cy cz o)) (((hz _ (by omega)).div _).fit (by omega))) ?_
          refine Ae 13 ?_
          refine Ce (.osl 22 1 1) (.new 22 (.vec 3 1 1 (λ_=> .int (iR (cz k/(gM nx ny nz cx cy cz o)))))) (Ak 23 1 #[(0,(.tmp 83))] (by kernel_rfl) underlying23 1 sizeOf3 _ zeroValue3 (by kernel_rfl) (Nat.le_of_ble_eq_true (by kernel_rfl)) (Nat.le_of_ble_eq_true (by kernel_rfl)) (Nat.le_of_ble_eq_true (by kernel_rfl)) 22 [.int (iR (cz k/(gM nx ny nz cx cy cz o)))] (by kernel_rfl) (λ_=> .int (iR (cz k/(gM nx ny nz cx cy cz o)))) (by kernel_rfl)) ?_
          refine Ce (.osl 23 1 (k+1)) (.grow2 20 22 23 (.vec 3 1 (k+1) (λxi=> .int (Jj nz cz (gM nx ny nz cx cy cz o) xi)))) (Db (.tmp 82) (.tmp 84) 23 (by kernel_rfl) underlying23 1 8 (.int .i64 0) (by kernel_rfl) (by kernel_rfl) (by decide) k 1 (by omega) (λxi=> .int (Jj nz cz (gM nx ny nz cx cy cz o) xi)) (λ_=> .int (iR (cz k/(gM nx ny nz cx cy cz o)))) (λxi=> .int (Jj nz cz (gM nx ny nz cx cy cz o) xi)) 23 (by omega) (by unfold maxLen;omega) (λi hi=>rfl) (λi hi=>by(obtain rfl:i=0:=(by omega));show AV.int (Jj _ _ _ _)=_;rw[Jj,if_pos (by omega)]<;>rfl) (λi hi j hj=>by obtain rfl:j=0:=(by omega);rfl) 20 (by kernel_rfl) (by kernel_rfl) 22 3 (by kernel_rfl) (by kernel_rfl)) ?_
          refine Ae 6 ?_
          refine Fr ((k:Int)+1) ((k+1:Nat):Int) ?_
          refine Ae 2 ?_
          exact Hu [6,8,10,15,18,59,60,66,67,68] [(0,0),(1,1),(2,2),(3,3),(4,4),(5,5),(23,20)] 21 0 hA0 [(3,1,1,(λ_=> .int (iR (cz k/(gM nx ny nz cx cy cz o))))),(3,1,k+1,(λxi=> .int (Jj nz cz (gM nx ny nz cx cy cz o) xi)))] ⟨(Hq λ_ _=>rfl),(Hq λ_ _=>rfl),trivial⟩ (hJ7 _ _ (by omega:nz-(k+1)<nz-k) ⟨k+1,(by omega),rfl,trivial,.inr ⟨Nat.succ_pos _,rfl⟩⟩)
         ·
          refine Ae 6 ?_
          refine Aab 20 4 5 3 1 k (λxi=> .int (Jj nz cz (gM nx ny nz cx cy cz o) xi)) (Hq λ_ _=>rfl) ?_
          have hke:k=max nz 1:=by omega
          subst hke
          refine Aaf 34 ?_
          refine Ae 7 ?_
          refine Iw 92 (decide (((max nz 1:Nat):Int)=0)) false (decide_eq_false (by omega)) ?_
          refine Ae 5 ?_
          exact Om [6,8,10,15,59,60] hJ6
      ·
       refine Ae 4 ?_
       refine Ce (.ptr 4 4) .none (Dm 222 (.tmp 59) (.tmp 60) (by kernel_rfl) underlying222 1 sizeOf221 1 false isAgg221 [.ptr 4 3,.ptr 4 4,.ptr 4 5] 1 (by kernel_rfl) (by kernel_rfl) (by omega) (by decide) (Nat.le_of_ble_eq_true (by kernel_rfl)) (by decide) (.ptr 4 4) (by kernel_rfl)) ?_
       refine Ae 8 ?_
       refine Ce (.ptr 0 1) .none (Bx 203 (.tmp 6) (.tmp 64) (by kernel_rfl) underlying203 0 0 1 1 1 (by kernel_rfl) (by kernel_rfl) sizeOf202 (by decide) (by omega) (by decide)) ?_
       refine Ae 6 ?_
       refine lK [6,8,10,15,18,59,60,66,67,68] (λm s=>∃k,k<=ny/\m=ny-k/\True/\((k=0/\s=⟨[(6,.ptr 0 0),(8,.ptr 2 0),(10,.ptr 3 0),(15,.ptr 4 0),(18,.ptr 4 4),(59,.agg [.ptr 4 3,.ptr 4 4,.ptr 4 5]),(60,.int 1),(66,Be ny cy),(67,.int (ny:Int)),(68,.int ((0:Nat):Int))],[(0,.box 203 [Be nx cx,Be ny cy,Be nz cz]),(1,wB o),(2,sB),(3,wB (gM nx ny nz cx cy cz o)),(4,.box 81 [.int f,.int t,.int (iR (o/(gM nx ny nz cx cy cz o))),.sl 1 (max nx 1) (λxi=> .int (Jj nx cx (gM nx ny nz cx cy cz o) xi)),.lit (.slice none 0 0),.lit (.slice none 0 0)]),(5,wB (o/(gM nx ny nz cx cy cz o)))],30,98⟩)\/(0<k/\s=⟨[(6,.ptr 0 0),(8,.ptr 2 0),(10,.ptr 3 0),(15,.ptr 4 0),(18,.ptr 4 4),(59,.agg [.ptr 4 3,.ptr 4 4,.ptr 4 5]),(60,.int 1),(66,Be ny cy),(67,.int (ny:Int)),(68,.int (k:Int))],[(0,.box 203 [Be nx cx,Be ny cy,Be nz cz]),(1,wB o),(2,sB),(3,wB (gM nx ny nz cx cy cz o)),(4,.box 81 [.int f,.int t,.int (iR (o/(gM nx ny nz cx cy cz o))),.sl 1 (max nx 1) (λxi=> .int (Jj nx cx (gM nx ny nz cx cy cz o) xi)),.osl 20 1 k,.lit (.slice none 0 0)]),(5,wB (o/(gM nx ny nz cx cy cz o))),(20,.vec 3 1 k (λxi=> .int (Jj ny cy (gM nx ny nz cx cy cz o) xi)))],21,98⟩))) ny ⟨0,Nat.zero_le _,rfl,trivial,.inl ⟨rfl,(by kernel_rfl)⟩⟩ ?_
       rintro _ _ ⟨k,hkn,rfl,hFk,(⟨hk0,rfl⟩|⟨hk0,rfl⟩)⟩ J8 hJ8
       ·
        subst hk0
        refine Ae 6 ?_
        refine Ft 69 (((0:Nat):Int)<(ny:Int)) (λhx4 hx4d=>?_) (λhx4 hx4d=>?_)
        ·
         refine Ae 7 ?_
         refine Gn 0 ny ?_
         refine Ae 9 ?_
         refine Cz (Kf (cy 0) (gM nx ny nz cx cy cz o) ((hy _ (by omega)).fit (by omega)) (bG.fit (by omega)) (by omega)) ?_
         refine Cz (Mp (cy 0/(gM nx ny nz cx cy cz o)) (((hy _ (by omega)).div _).fit (by omega))) ?_
         refine Ae 13 ?_
         refine Ce (.osl 31 1 1) (.new 31 (.vec 3 1 1 (λ_=> .int (iR (cy 0/(gM nx ny nz cx cy cz o)))))) (Ak 23 1 #[(0,(.tmp 83))] (by kernel_rfl) underlying23 1 sizeOf3 _ zeroValue3 (by kernel_rfl) (Nat.le_of_ble_eq_true (by kernel_rfl)) (Nat.le_of_ble_eq_true (by kernel_rfl)) (Nat.le_of_ble_eq_true (by kernel_rfl)) 31 [.int (iR (cy 0/(gM nx ny nz cx cy cz o)))] (by kernel_rfl) (λ_=> .int (iR (cy 0/(gM nx ny nz cx cy cz o)))) (by kernel_rfl)) ?_
         refine Ce (.osl 32 1 1) (.newr 31 32 (.vec 3 1 1 (λxi=> .int (Jj ny cy (gM nx ny nz cx cy cz o) xi)))) (Cr (.tmp 82) (.tmp 84) 23 (by kernel_rfl) underlying23 1 8 (.int .i64 0) (by kernel_rfl) (by kernel_rfl) (by decide) 1 (by omega) (λ_=> .int (iR (cy 0/(gM nx ny nz cx cy cz o)))) (λxi=> .int (Jj ny cy (gM nx ny nz cx cy cz o) xi)) 32 (λi hi=>by(obtain rfl:i=0:=(by omega));show AV.int (Jj _ _ _ _)=_;rw[Jj,if_pos (by omega)]<;>rfl) (λi hi j hj=>by obtain rfl:j=0:=(by omega);rfl) (by unfold maxLen;omega) (by omega) (by kernel_rfl) 31 3 (by kernel_rfl) (by kernel_rfl)) ?_
         refine Ae 6 ?_
         refine Fr (((0:Nat):Int)+1) ((0+1:Nat):Int) ?_
         refine Ae 2 ?_
         exact Hu [6,8,10,15,18,59,60,66,67,68] [(0,0),(1,1),(2,2),(3,3),(4,4),(5,5),(32,20)] 21 0 hA0 [(3,1,1,(λ_=> .int (iR (cy 0/(gM nx ny nz cx cy cz o))))),(3,1,1,(λxi=> .int (Jj ny cy (gM nx ny nz cx cy cz o) xi)))] ⟨(Hq λ_ _=>rfl),(Hq λ_ _=>rfl),trivial⟩ (hJ8 _ _ (by omega:ny-(0+1)<ny-0) ⟨0+1,(by omega),rfl,trivial,.inr ⟨Nat.succ_pos _,rfl⟩⟩)
        ·
         refine Ae 6 ?_
         refine Aaf 31 ?_
         refine Ae 12 ?_
         refine Ce (.osl 31 1 1) (.new 31 (.vec 3 1 1 (λ_=> .int 0))) (Ak 23 1 #[(0,(.const (.int .i64 0)))] (by kernel_rfl) underlying23 1 sizeOf3 _ zeroValue3 (by kernel_rfl) (Nat.le_of_ble_eq_true (by kernel_rfl)) (Nat.le_of_ble_eq_true (by kernel_rfl)) (Nat.le_of_ble_eq_true (by kernel_rfl)) 31 [.int 0] (by kernel_rfl) (λ_=> .int 0) (by kernel_rfl)) ?_
         refine dL 31 [94] 3 1 1 (λ_=> .int 0) (Hq λ_ _=>rfl) ?_
         refine Ae 4 ?_
         exact Om [6,8,10,15,59,60] hJ5 (hs:=(by rw[show ny=0 by omega];kernel_rfl))
       ·
        refine Ae 6 ?_
        refine Ft 69 ((k:Int)<(ny:Int)) (λhx5 hx5d=>?_) (λhx5 hx5d=>?_)
        ·
         refine Ae 7 ?_
         refine Gn k ny ?_
         refine Ae 9 ?_
         refine Cz (Kf (cy k) (gM nx ny nz cx cy cz o) ((hy _ (by omega)).fit (by omega)) (bG.fit (by omega)) (by omega)) ?_
         refine Cz (Mp (cy k/(gM nx ny nz cx cy cz o)) (((hy _ (by omega)).div _).fit (by omega))) ?_
         refine Ae 13 ?_
         refine Ce (.osl 22 1 1) (.new 22 (.vec 3 1 1 (λ_=> .int (iR (cy k/(gM nx ny nz cx cy cz o)))))) (Ak 23 1 #[(0,(.tmp 83))] (by kernel_rfl) underlying23 1 sizeOf3 _ zeroValue3 (by kernel_rfl) (Nat.le_of_ble_eq_true (by kernel_rfl)) (Nat.le_of_ble_eq_true (by kernel_rfl)) (Nat.le_of_ble_eq_true (by kernel_rfl)) 22 [.int (iR (cy k/(gM nx ny nz cx cy cz o)))] (by kernel_rfl) (λ_=> .int (iR (cy k/(gM nx ny nz cx cy cz o)))) (by kernel_rfl)) ?_
         refine Ce (.osl 23 1 (k+1)) (.grow2 20 22 23 (.vec 3 1 (k+1) (λxi=> .int (Jj ny cy (gM nx ny nz cx cy cz o) xi)))) (Db (.tmp 82) (.tmp 84) 23 (by kernel_rfl) underlying23 1 8 (.int .i64 0) (by kernel_rfl) (by kernel_rfl) (by decide) k 1 (by omega) (λxi=> .int (Jj ny cy (gM nx ny nz cx cy cz o) xi)) (λ_=> .int (iR (cy k/(gM nx ny nz cx cy cz o)))) (λxi=> .int (Jj ny cy (gM nx ny nz cx cy cz o) xi)) 23 (by omega) (by unfold maxLen;omega) (λi hi=>rfl) (λi hi=>by(obtain rfl:i=0:=(by omega));show AV.int (Jj _ _ _ _)=_;rw[Jj,if_pos (by omega)]<;>rfl) (λi hi j hj=>by obtain rfl:j=0:=(by omega);rfl) 20 (by kernel_rfl) (by kernel_rfl) 22 3 (by kernel_rfl) (by kernel_rfl)) ?_
         refine Ae 6 ?_
         refine Fr ((k:Int)+1) ((k+1:Nat):Int) ?_
         refine Ae 2 ?_
         exact Hu [6,8,10,15,18,59,60,66,67,68] [(0,0),(1,1),(2,2),(3,3),(4,4),(5,5),(23,20)] 21 0 hA0 [(3,1,1,(λ_=> .int (iR (cy k/(gM nx ny nz cx cy cz o))))),(3,1,k+1,(λxi=> .int (Jj ny cy (gM nx ny nz cx cy cz o) xi)))] ⟨(Hq λ_ _=>rfl),(Hq λ_ _=>rfl),trivial⟩ (hJ8 _ _ (by omega:ny-(k+1)<ny-k) ⟨k+1,(by omega),rfl,trivial,.inr ⟨Nat.succ_pos _,rfl⟩⟩)
        ·
         refine Ae 6 ?_
         refine Aab 20 4 4 3 1 k (λxi=> .int (Jj ny cy (gM nx ny nz cx cy cz o) xi)) (Hq λ_ _=>rfl) ?_
         have hke:k=max ny 1:=by omega
         subst hke
         refine Aaf 32 ?_
         refine Ae 7 ?_
         refine Iw 92 (decide (((max ny 1:Nat):Int)=0)) false (decide_eq_false (by omega)) ?_
         refine Ae 5 ?_
         exact Om [6,8,10,15,59,60] hJ5
     ·
      refine Ae 4 ?_
      refine Ce (.ptr 4 3) .none (Dm 222 (.tmp 59) (.tmp 60) (by kernel_rfl) underlying222 1 sizeOf221 0 false isAgg221 [.ptr 4 3,.ptr 4 4,.ptr 4 5] 0 (by kernel_rfl) (by kernel_rfl) (by omega) (by decide) (Nat.le_of_ble_eq_true (by kernel_rfl)) (by decide) (.ptr 4 3) (by kernel_rfl)) ?_
      refine Ae 8 ?_
      refine Ce (.ptr 0 0) .none (Bx 203 (.tmp 6) (.tmp 64) (by kernel_rfl) underlying203 0 0 1 0 0 (by kernel_rfl) (by kernel_rfl) sizeOf202 (by decide) (by omega) (by decide)) ?_
      refine Ae 6 ?_
      refine lK [6,8,10,15,18,59,60,66,67,68] (λm s=>∃k,k<=nx/\m=nx-k/\True/\((k=0/\s=⟨[(6,.ptr 0 0),(8,.ptr 2 0),(10,.ptr 3 0),(15,.ptr 4 0),(18,.ptr 4 3),(59,.agg [.ptr 4 3,.ptr 4 4,.ptr 4 5]),(60,.int 0),(66,Be nx cx),(67,.int (nx:Int)),(68,.int ((0:Nat):Int))],[(0,.box 203 [Be nx cx,Be ny cy,Be nz cz]),(1,wB o),(2,sB),(3,wB (gM nx ny nz cx cy cz o)),(4,.box 81 [.int f,.int t,.int (iR (o/(gM nx ny nz cx cy cz o))),.lit (.slice none 0 0),.lit (.slice none 0 0),.lit (.slice none 0 0)]),(5,wB (o/(gM nx ny nz cx cy cz o)))],6,98⟩)\/(0<k/\s=⟨[(6,.ptr 0 0),(8,.ptr 2 0),(10,.ptr 3 0),(15,.ptr 4 0),(18,.ptr 4 3),(59,.agg [.ptr 4 3,.ptr 4 4,.ptr 4 5]),(60,.int 0),(66,Be nx cx),(67,.int (nx:Int)),(68,.int (k:Int))],[(0,.box 203 [Be nx cx,Be ny cy,Be nz cz]),(1,wB o),(2,sB),(3,wB (gM nx ny nz cx cy cz o)),(4,.box 81 [.int f,.int t,.int (iR (o/(gM nx ny nz cx cy cz o))),.osl 20 1 k,.lit (.slice none 0 0),.lit (.slice none 0 0)]),(5,wB (o/(gM nx ny nz cx cy cz o))),(20,.vec 3 1 k (λxi=> .int (Jj nx cx (gM nx ny nz cx cy cz o) xi)))],21,98⟩))) nx ⟨0,Nat.zero_le _,rfl,trivial,.inl ⟨rfl,(by kernel_rfl)⟩⟩ ?_
      rintro _ _ ⟨k,hkn,rfl,hFk,(⟨hk0,rfl⟩|⟨hk0,rfl⟩)⟩ J9 hJ9
      ·
       subst hk0
       refine Ae 6 ?_
       refine Ft 69 (((0:Nat):Int)<(nx:Int)) (λhx6 hx6d=>?_) (λhx6 hx6d=>?_)
       ·
        refine Ae 7 ?_
        refine Gn 0 nx ?_
        refine Ae 9 ?_
        refine Cz (Kf (cx 0) (gM nx ny nz cx cy cz o) ((hx _ (by omega)).fit (by omega)) (bG.fit (by omega)) (by omega)) ?_
        refine Cz (Mp (cx 0/(gM nx ny nz cx cy cz o)) (((hx _ (by omega)).div _).fit (by omega))) ?_
        refine Ae 13 ?_
        refine Ce (.osl 7 1 1) (.new 7 (.vec 3 1 1 (λ_=> .int (iR (cx 0/(gM nx ny nz cx cy cz o)))))) (Ak 23 1 #[(0,(.tmp 83))] (by kernel_rfl) underlying23 1 sizeOf3 _ zeroValue3 (by kernel_rfl) (Nat.le_of_ble_eq_true (by kernel_rfl)) (Nat.le_of_ble_eq_true (by kernel_rfl)) (Nat.le_of_ble_eq_true (by kernel_rfl)) 7 [.int (iR (cx 0/(gM nx ny nz cx cy cz o)))] (by kernel_rfl) (λ_=> .int (iR (cx 0/(gM nx ny nz cx cy cz o)))) (by kernel_rfl)) ?_
        refine Ce (.osl 8 1 1) (.newr 7 8 (.vec 3 1 1 (λxi=> .int (Jj nx cx (gM nx ny nz cx cy cz o) xi)))) (Cr (.tmp 82) (.tmp 84) 23 (by kernel_rfl) underlying23 1 8 (.int .i64 0) (by kernel_rfl) (by kernel_rfl) (by decide) 1 (by omega) (λ_=> .int (iR (cx 0/(gM nx ny nz cx cy cz o)))) (λxi=> .int (Jj nx cx (gM nx ny nz cx cy cz o) xi)) 8 (λi hi=>by(obtain rfl:i=0:=(by omega));show AV.int (Jj _ _ _ _)=_;rw[Jj,if_pos (by omega)]<;>rfl) (λi hi j hj=>by obtain rfl:j=0:=(by omega);rfl) (by unfold maxLen;omega) (by omega) (by kernel_rfl) 7 3 (by kernel_rfl) (by kernel_rfl)) ?_
        refine Ae 6 ?_
        refine Fr (((0:Nat):Int)+1) ((0+1:Nat):Int) ?_
        refine Ae 2 ?_
        exact Hu [6,8,10,15,18,59,60,66,67,68] [(0,0),(1,1),(2,2),(3,3),(4,4),(5,5),(8,20)] 21 0 hA0 [(3,1,1,(λ_=> .int (iR (cx 0/(gM nx ny nz cx cy cz o))))),(3,1,1,(λxi=> .int (Jj nx cx (gM nx ny nz cx cy cz o) xi)))] ⟨(Hq λ_ _=>rfl),(Hq λ_ _=>rfl),trivial⟩ (hJ9 _ _ (by omega:nx-(0+1)<nx-0) ⟨0+1,(by omega),rfl,trivial,.inr ⟨Nat.succ_pos _,rfl⟩⟩)
       ·
        refine Ae 6 ?_
        refine Aaf 29 ?_
        refine Ae 12 ?_
        refine Ce (.osl 29 1 1) (.new 29 (.vec 3 1 1 (λ_=> .int 0))) (Ak 23 1 #[(0,(.const (.int .i64 0)))] (by kernel_rfl) underlying23 1 sizeOf3 _ zeroValue3 (by kernel_rfl) (Nat.le_of_ble_eq_true (by kernel_rfl)) (Nat.le_of_ble_eq_true (by kernel_rfl)) (Nat.le_of_ble_eq_true (by kernel_rfl)) 29 [.int 0] (by kernel_rfl) (λ_=> .int 0) (by kernel_rfl)) ?_
        refine dL 29 [94] 3 1 1 (λ_=> .int 0) (Hq λ_ _=>rfl) ?_
        refine Ae 4 ?_
        exact Om [6,8,10,15,59,60] hJ4 (hs:=(by rw[show nx=0 by omega];kernel_rfl))
      ·
       refine Ae 6 ?_
       refine Ft 69 ((k:Int)<(nx:Int)) (λhx7 hx7d=>?_) (λhx7 hx7d=>?_)
       ·
        refine Ae 7 ?_
        refine Gn k nx ?_
        refine Ae 9 ?_
        refine Cz (Kf (cx k) (gM nx ny nz cx cy cz o) ((hx _ (by omega)).fit (by omega)) (bG.fit (by omega)) (by omega)) ?_
        refine Cz (Mp (cx k/(gM nx ny nz cx cy cz o)) (((hx _ (by omega)).div _).fit (by omega))) ?_
        refine Ae 13 ?_
        refine Ce (.osl 22 1 1) (.new 22 (.vec 3 1 1 (λ_=> .int (iR (cx k/(gM nx ny nz cx cy cz o)))))) (Ak 23 1 #[(0,(.tmp 83))] (by kernel_rfl) underlying23 1 sizeOf3 _ zeroValue3 (by kernel_rfl) (Nat.le_of_ble_eq_true (by kernel_rfl)) (Nat.le_of_ble_eq_true (by kernel_rfl)) (Nat.le_of_ble_eq_true (by kernel_rfl)) 22 [.int (iR (cx k/(gM nx ny nz cx cy cz o)))] (by kernel_rfl) (λ_=> .int (iR (cx k/(gM nx ny nz cx cy cz o)))) (by kernel_rfl)) ?_
        refine Ce (.osl 23 1 (k+1)) (.grow2 20 22 23 (.vec 3 1 (k+1) (λxi=> .int (Jj nx cx (gM nx ny nz cx cy cz o) xi)))) (Db (.tmp 82) (.tmp 84) 23 (by kernel_rfl) underlying23 1 8 (.int .i64 0) (by kernel_rfl) (by kernel_rfl) (by decide) k 1 (by omega) (λxi=> .int (Jj nx cx (gM nx ny nz cx cy cz o) xi)) (λ_=> .int (iR (cx k/(gM nx ny nz cx cy cz o)))) (λxi=> .int (Jj nx cx (gM nx ny nz cx cy cz o) xi)) 23 (by omega) (by unfold maxLen;omega) (λi hi=>rfl) (λi hi=>by(obtain rfl:i=0:=(by omega));show AV.int (Jj _ _ _ _)=_;rw[Jj,if_pos (by omega)]<;>rfl) (λi hi j hj=>by obtain rfl:j=0:=(by omega);rfl) 20 (by kernel_rfl) (by kernel_rfl) 22 3 (by kernel_rfl) (by kernel_rfl)) ?_
        refine Ae 6 ?_
        refine Fr ((k:Int)+1) ((k+1:Nat):Int) ?_
        refine Ae 2 ?_
        exact Hu [6,8,10,15,18,59,60,66,67,68] [(0,0),(1,1),(2,2),(3,3),(4,4),(5,5),(23,20)] 21 0 hA0 [(3,1,1,(λ_=> .int (iR (cx k/(gM nx ny nz cx cy cz o))))),(3,1,k+1,(λxi=> .int (Jj nx cx (gM nx ny nz cx cy cz o) xi)))] ⟨(Hq λ_ _=>rfl),(Hq λ_ _=>rfl),trivial⟩ (hJ9 _ _ (by omega:nx-(k+1)<nx-k) ⟨k+1,(by omega),rfl,trivial,.inr ⟨Nat.succ_pos _,rfl⟩⟩)
       ·
        refine Ae 6 ?_
        refine Aab 20 4 3 3 1 k (λxi=> .int (Jj nx cx (gM nx ny nz cx cy cz o) xi)) (Hq λ_ _=>rfl) ?_
        have hke:k=max nx 1:=by omega
        subst hke
        refine Aaf 30 ?_
        refine Ae 7 ?_
        refine Iw 92 (decide (((max nx 1:Nat):Int)=0)) false (decide_eq_false (by omega)) ?_
        refine Ae 5 ?_
        exact Om [6,8,10,15,59,60] hJ4
def Zd (n:Nat) (c:Nat->Int) (g:Int):List Int:=(List.range (max n 1)).map (Jj n c g)
theorem uH (n:Nat) (c:Nat->Int) (g:Int) (i:Nat):(Zd n c g).getD i 0=Jj n c g i:=by
 unfold Zd
 rw[List.getD_eq_getElem?_getD,List.getElem?_map]
 by_cases h:i<max n 1
 rw[List.getElem?_range h];rfl
 rw[List.getElem?_eq_none (by simp;omega)]
 show (0:Int)=_
 unfold Jj
 rw[if_neg (by omega)]
theorem aY (n:Nat) (c:Nat->Int) (g:Int):(Zd n c g).length=max n 1:=by simp[Zd]
def vF (f t:Int) (nx ny nz:Nat) (cx cy cz:Nat->Int) (o:Int):Sg:=⟨f,t,iR (o/gM nx ny nz cx cy cz o),Zd nx cx (gM nx ny nz cx cy cz o),Zd ny cy (gM nx ny nz cx cy cz o),Zd nz cz (gM nx ny nz cx cy cz o)⟩
def vE (nx ny nz:Nat) (cx cy cz:Nat->Int) (o:Int):Bool:=decide ((0:Int)<(o/gM nx ny nz cx cy cz o-4294967296).sign)
theorem Ab4 {f t:Int} {nx ny nz:Nat} {cx cy cz:Nat->Int} {o:Int} (h:vE nx ny nz cx cy cz o=false):Yq f t nx ny nz cx cy cz o= .tup [Bq (vF f t nx ny nz cx cy cz o),.bool true]:=by
 unfold Yq vF
 rw[if_neg (of_decide_eq_false h)]
 have key:∀n c,(AV.sl 1 (max n 1) λxi=> .int (Jj n c (gM nx ny nz cx cy cz o) xi))=Ao (Zd n c (gM nx ny nz cx cy cz o)):=λn c=>by
  show _=AV.sl 1 (Zd n c (gM nx ny nz cx cy cz o)).length λxi=> .int ((Zd n c (gM nx ny nz cx cy cz o)).getD xi 0)
  rw[aY,show (λxi=>AV.int ((Zd n c (gM nx ny nz cx cy cz o)).getD xi 0))=λxi=> .int (Jj n c (gM nx ny nz cx cy cz o) xi) from funext λxi=>by rw[uH]]
 rw[key,key,key]
theorem Ab3 {f t:Int} {nx ny nz:Nat} {cx cy cz:Nat->Int} {o:Int} (h:vE nx ny nz cx cy cz o=true):Yq f t nx ny nz cx cy cz o= .lit (.tuple #[.agg #[.int .i64 f,.int .i64 t,.int .i64 0,.slice none 0 0,.slice none 0 0,.slice none 0 0],.bool false]):=by
 unfold Yq
 rw[if_pos (of_decide_eq_true h)]
abbrev pD (s:Sg):Int:=s.t-s.f
def Bu (s:Sg) (a b:Int):Sg:=vF a b (on s.x (a-s.f) (b-a) (pD s)) (on s.y (a-s.f) (b-a) (pD s)) (on s.z (a-s.f) (b-a) (pD s)) (oc s.x (a-s.f) (b-a) (pD s)) (oc s.y (a-s.f) (b-a) (pD s)) (oc s.z (a-s.f) (b-a) (pD s)) (s.o*pD s^5)
def Wj (s:Sg) (a b:Int):Bool:=vE (on s.x (a-s.f) (b-a) (pD s)) (on s.y (a-s.f) (b-a) (pD s)) (on s.z (a-s.f) (b-a) (pD s)) (oc s.x (a-s.f) (b-a) (pD s)) (oc s.y (a-s.f) (b-a) (pD s)) (oc s.z (a-s.f) (b-a) (pD s)) (s.o*pD s^5)
theorem Bo {x:Int} (h: -3600000<=x/\x<=3600000):Ct x:=⟨by omega,by omega⟩
theorem tP (s:Sg) (a b:Int) (hs:Uc s) (ho:Gy s) (ha:s.f<=a/\a<=s.t) (hb:a<=b/\b<=s.t):AF Tryz.prog 140 [.int a,.int b,.agg [Fe s.x (a-s.f) (b-a) (pD s),Fe s.y (a-s.f) (b-a) (pD s),Fe s.z (a-s.f) (b-a) (pD s)],WA (s.o*pD s^5)] (Yq a b (on s.x (a-s.f) (b-a) (pD s)) (on s.y (a-s.f) (b-a) (pD s)) (on s.z (a-s.f) (b-a) (pD s)) (oc s.x (a-s.f) (b-a) (pD s)) (oc s.y (a-s.f) (b-a) (pD s)) (oc s.z (a-s.f) (b-a) (pD s)) (s.o*pD s^5)):=by
 have hh:=ho.1
 unfold Kh at hh
 have h1:Ct (a-s.f):=Bo (by omega)
 have h2:Ct (b-a):=Bo (by omega)
 have h3:Ct (pD s):=Bo (by show -3600000<=s.t-s.f/\s.t-s.f<=3600000;omega)
 have hx:=ho.2.1.2.1
 have hy:=ho.2.2.1.2.1
 have hz:=ho.2.2.2.1.2.1
 refine Ac8 a b _ _ _ _ _ _ _ (AbC _ _ _ _ hx) (AbC _ _ _ _ hy) (AbC _ _ _ _ hz) (λi _=>fZ hs.x hx h1 h2 h3 i) (λi _=>fZ hs.y hy h1 h2 h3 i) (λi _=>fZ hs.z hz h1 h2 h3 i) ((Xr hs h3).mono (by omega)) ?_
 exact Int.mul_pos (by omega) (Int.pow_pos (by show 0<s.t-s.f;omega))
theorem aH (s:Sg) (a b:Int) (hs:Uc s) (ho:Gy s) (ha:s.f<=a/\a<=s.t) (hb:a<=b/\b<=s.t) (h:Wj s a b=false):AF Tryz.prog 140 [.int a,.int b,.agg [Fe s.x (a-s.f) (b-a) (pD s),Fe s.y (a-s.f) (b-a) (pD s),Fe s.z (a-s.f) (b-a) (pD s)],WA (s.o*pD s^5)] (.tup [Bq (Bu s a b),.bool true]):=by
 have:=tP s a b hs ho ha hb
 rwa [Ab4 h] at this
theorem aG (s:Sg) (a b:Int) (hs:Uc s) (ho:Gy s) (ha:s.f<=a/\a<=s.t) (hb:a<=b/\b<=s.t) (h:Wj s a b=true):AF Tryz.prog 140 [.int a,.int b,.agg [Fe s.x (a-s.f) (b-a) (pD s),Fe s.y (a-s.f) (b-a) (pD s),Fe s.z (a-s.f) (b-a) (pD s)],WA (s.o*pD s^5)] (.lit (.tuple #[.agg #[.int .i64 a,.int .i64 b,.int .i64 0,.slice none 0 0,.slice none 0 0,.slice none 0 0],.bool false])):=by
 have:=tP s a b hs ho ha hb
 rwa [Ab3 h] at this
theorem Ls (s:Sg) (a b d:Int) (hs:Uc s) (ho:Gy s) (ha:Ct a) (hb:Ct b) (hd:Ct d) (hdp:0<d):AF Tryz.prog 141 [Bq s,.int a,.int b,.int d] (.agg [Fe s.x a b d,Fe s.y a b d,Fe s.z a b d]):=
 lU s a b d hs ho.2.1.1 ho.2.1.2.1 ho.2.2.1.1 ho.2.2.1.2.1 ho.2.2.2.1.1 ho.2.2.2.1.2.1 ha hb hd hdp
abbrev pA (l:List Sg) (f:Int) (i:Nat):Int:=max f (l.getD i Sg.none).f
abbrev pB (l:List Sg) (t:Int) (i:Nat):Int:=min t (l.getD i Sg.none).t
def Hz (l:List Sg) (f t:Int):Nat->List Sg
 |0=>[]
 |i+1=>if pA l f i<pB l t i then Hz l f t i++[Bu (l.getD i Sg.none) (pA l f i) (pB l t i)] else Hz l f t i
def Yi (l:List Sg) (f t:Int) (i:Nat):Prop:=∀j,j<i->pA l f j<pB l t j->Wj (l.getD j Sg.none) (pA l f j) (pB l t j)=false
theorem Ou {l:List Sg} {f t:Int} {i:Nat} (h:¬pA l f i<pB l t i):Hz l f t (i+1)=Hz l f t i:=by rw[Hz,if_neg h]
theorem Mq {l:List Sg} {f t:Int} {i:Nat} (h:pA l f i<pB l t i):Hz l f t (i+1)=Hz l f t i++[Bu (l.getD i Sg.none) (pA l f i) (pB l t i)]:=by rw[Hz,if_pos h]
theorem aZ {l:List Sg} {f t:Int} {i:Nat} (h:¬pA l f i<pB l t i) (hk:Yi l f t i):Yi l f t (i+1):=λj hj h2=>by
 by_cases e:j=i
 subst e;exact absurd h2 h
 exact hk j (by omega) h2
theorem fC {l:List Sg} {f t:Int} {i:Nat} (h:Wj (l.getD i Sg.none) (pA l f i) (pB l t i)=false) (hk:Yi l f t i):Yi l f t (i+1):=λj hj h2=>by
 by_cases e:j=i
 subst e;exact h
 exact hk j (by omega) h2
open Classical in
noncomputable def nA (l:List Sg) (f t:Int):List Sg×Int:=if Yi l f t l.length then (Hz l f t l.length,0) else ([],7)
theorem uJ {l:List Sg} {f t:Int} (h:Yi l f t l.length):nA l f t=(Hz l f t l.length,0):=if_pos h
theorem uI {l:List Sg} {f t:Int} {j:Nat} (hj:j<l.length) (h1:pA l f j<pB l t j) (h2:Wj (l.getD j Sg.none) (pA l f j) (pB l t j)=true):nA l f t=([],7):=if_neg λh=>by
 have:=h j hj h1
 rw[h2] at this;cases this
theorem bW {p:Pr} {k:Nat} {t:Int} {m:List Int}:∀{i:Nat} {l:List Int},i<=m.length->Ec p k t m i=some l->∀j,l.getD j 0=m.getD j 0+if j<i then ((Gv p k t j).length:Int) else 0
 |0,l,_,h,j=>by cases h;rw[if_neg (Nat.not_lt_zero j),Int.add_zero]
 |i+1,l,hi,h,j=>by
  rw[Ec] at h
  cases h1:Ec p k t m i with
  |none=>rw[h1] at h;cases h
  |some l1=>
   rw[h1] at h
   simp only at h
   have ih:=bW (by omega) h1
   have hlen:l1.length=m.length:=by
    clear ih h
    have key:∀{i:Nat} {l1:List Int},Ec p k t m i=some l1->l1.length=m.length:=by
     intro i
     induction i with
     |zero=>intro l1 h;cases h;rfl
     |succ i ih=>
      intro l1 h
      rw[Ec] at h
      cases h2:Ec p k t m i with
      |none=>rw[h2] at h;cases h
      |some l2=>
       rw[h2] at h
       simp only at h
       split at h
       cases h;rw[List.length_set];exact ih h2
       cases h
    exact key h1
   split at h
   cases h
   by_cases e:i=j
   subst e
   rw[if_pos (Nat.lt_succ_self i)]
   have h2:=ih i
   rw[if_neg (Nat.lt_irrefl i),Int.add_zero] at h2
   rw[<-h2]
   simp[List.getD_eq_getElem?_getD,show i<l1.length by omega]
   have h2:=ih j
   have h4:(if j<i then ((Gv p k t j).length:Int) else 0)=if j<i+1 then ((Gv p k t j).length:Int) else 0:=by
    by_cases hj:j<i
    rw[if_pos hj,if_pos (by omega)]
    rw[if_neg hj,if_neg (by omega)]
   rw[<-h4,<-h2]
   simp[List.getD_eq_getElem?_getD,List.getElem?_set_ne e]
   cases h
theorem pU {p:Pr}:∀{k:Nat} {t:Int} {m:List Int},Kp p k=some (t,m)->∀i,i<p.names.length->m.getD i 0=((Ir p k i).length:Int)/\((Ir p k i).length:Int)<=256
 |0,t,m,h,i,hi=>by
  simp only[Kp,Option.some.injEq,Prod.mk.injEq] at h
  obtain⟨_,rfl⟩:=h
  simp[List.getD_eq_getElem?_getD,hi,Ir]
 |k+1,t,m,h,i,hi=>by
  have hfin:=Nb h
  have hm:i<m.length:=by rw[hfin.2.2.1];exact hi
  have hb:m.getD i 0<=256:=by
   have:m.getD i 0=m[i]:=by simp[List.getD_eq_getElem?_getD,hm]
   rw[this];exact(hfin.2.2.2.1 _ (List.getElem_mem hm)).2
  rw[Kp] at h
  cases h1:Kp p k with
  |none=>rw[h1] at h;cases h
  |some tm=>
   obtain⟨t1,m1⟩:=tm
   rw[h1] at h
   simp only at h
   have ih:=pU h1 i hi
   have h1f:=Nb h1
   have ht:=(dJ h1).1
   split at h
   cases h2:Ec p k t1 m1 p.names.length with
   |none=>rw[h2] at h;cases h
   |some m2=>
    rw[h2] at h
    simp only[Option.some.injEq,Prod.mk.injEq] at h
    obtain⟨_,rfl⟩:=h
    have h3:=bW (by rw[h1f.2.2.1];exact Nat.le_refl _) h2 i
    rw[if_pos hi,ih.1,ht] at h3
    have h4:m2.getD i 0=((Ir p (k+1) i).length:Int):=by rw[h3,Ir,List.length_append];omega
    exact⟨h4,by omega⟩
   cases h
theorem Adx {p:Pr} (h:Fa p=true) {i:Nat} (hi:i<p.names.length):(Ir p p.acts.length i).length<=256:=by
 unfold Fa at h
 simp only[Bool.and_eq_true] at h
 obtain⟨tm,ht⟩:=Option.isSome_iff_exists.1 h.2
 obtain⟨t,m⟩:=tm
 have:=(pU ht i hi).2
 omega
theorem nE {p:Pr} (ho:Za p):∀k,k<=p.acts.length->0<k->0<Bn p.acts k
 |0,_,h=>absurd h (Nat.lt_irrefl 0)
 |k+1,hk,_=>by
  have h1:=(ho.ends k (by omega)).1
  have h2:=ho.len k (by omega)
  rw[Bn];omega
structure Afn (p:Pr) (i:Nat) (l:List Sg):Prop where
 ok:Fm l
 pin:Dj l
 first:(l.getD 0 Sg.none).f=0
 last:(l.getD (l.length-1) Sg.none).t=Bn p.acts p.acts.length
 one:∀i,i<l.length->(l.getD i Sg.none).o=1
theorem AeG {p:Pr} (h:Fa p=true) (h0:0<p.acts.length) {i:Nat} (hi:i<p.names.length):Afn p i (Ir p p.acts.length i):=by
 have ho:=Kl h
 have hc:=Xq ho hi p.acts.length (Nat.le_refl _)
 have hp:=hc.pos (nE ho _ (Nat.le_refl _) h0)
 have hf:=Adx h hi
 refine⟨⟨λj hj=>⟨(hc.seg j hj).1,(hc.seg j hj).2.2.2⟩,hp,hf⟩,⟨by omega,λj=>?_⟩,hc.first hp,hc.last hp,λj hj=>(hc.seg j hj).2.2.1⟩
 by_cases hj:j<(Ir p p.acts.length i).length
 exact(hc.seg j hj).2.1
 have e:(Ir p p.acts.length i).getD j Sg.none=Sg.none:=by rw[List.getD_eq_getElem?_getD,List.getElem?_eq_none (by omega)];rfl
 rw[e];exact Dj.nil.2 0
theorem mY (p:Nat->Int) (m:Nat) (d:Int):∀j k,k<=j->j<m->cN p m 0 d d j k=p (m-1-j+k)*d^j
 |0,k,hk,hj=>by
  obtain rfl:k=0:=by omega
  rw[cN,Int.pow_zero,Int.mul_one];rfl
 |j+1,k,hk,hj=>by
  rw[cN]
  by_cases h0:k=0
  subst h0
  rw[if_pos rfl,Zu]
  unfold inn
  rw[if_pos (Nat.succ_pos j),if_pos rfl,Int.mul_zero,Int.zero_add,Int.zero_add,show m-2-j=m-1-(j+1)+0 by omega]
  rw[if_neg h0,Int.add_zero]
  have ih:=mY p m d j (k-1) (by omega) (by omega)
  unfold inn
  by_cases h1:k<j+1
  rw[if_pos h1,if_neg h0,Int.mul_zero,Int.add_zero,ih,Int.pow_succ,Int.mul_assoc,show m-1-j+(k-1)=m-1-(j+1)+k by omega]
  obtain rfl:k=j+1:=by omega
  rw[Nat.add_sub_cancel] at ih
  rw[if_neg h1,if_pos ⟨rfl,Nat.succ_pos j⟩,Nat.add_sub_cancel,ih,Int.pow_succ,Int.mul_assoc,show m-1-j+j=m-1-(j+1)+(j+1) by omega]
theorem Aag {l:List Int} {d:Int} (hd:0<d) (h1:1<=l.length) (h6:l.length<=6) (hl:1<l.length->l.getD (l.length-1) 0≠0):
  (on l 0 d d=l.length/\∀i,i<l.length->oc l 0 d d i=l.getD i 0*d^5)\/(l=[0]/\on l 0 d d=0):=by
 by_cases hz:l.getD (l.length-1) 0=0
 right
 have e1:l.length=1:=by
  by_cases h:1<l.length
  exact absurd hz (hl h)
  omega
 obtain⟨a,rfl⟩:=List.length_eq_one_iff.1 e1
 have ha:a=0:=hz
 subst ha
 refine⟨rfl,?_⟩
 have e2:dT [0]=0:=by decide
 show Fk (oc [0] 0 d d) (Fk (oN [0] 0 d d) (dT [0]))=0
 rw[e2];rfl
 left
 have e2:dT l=l.length:=Th (.inr hz)
 have e3:∀i,i<l.length->oN l 0 d d i=l.getD i 0*d^(l.length-1):=λi hi=>by
  show cN (Zk l) (dT l) 0 d d (dT l-1) i=_
  rw[e2,mY _ _ _ _ _ (by omega) (by omega),show l.length-1-(l.length-1)+i=i by omega]
 have hdp:∀k,d^k≠0:=λk=>Int.ne_of_gt (Int.pow_pos hd)
 have e4:∀i,i<l.length->oc l 0 d d i=l.getD i 0*d^5:=λi hi=>by
  show oN l 0 d d i*d^(6-l.length)=_
  rw[e3 i hi,Int.mul_assoc,<-Int.pow_add,show l.length-1+(6-l.length)=5 by omega]
 refine⟨?_,e4⟩
 have e5:Fk (oN l 0 d d) (dT l)=l.length:=by
  rw[e2]
  refine Th (.inr ?_)
  rw[e3 _ (by omega)]
  exact Int.mul_ne_zero hz (hdp _)
 show Fk (oc l 0 d d) (Fk (oN l 0 d d) (dT l))=l.length
 rw[e5]
 refine Th (.inr ?_)
 rw[e4 _ (by omega)]
 exact Int.mul_ne_zero hz (hdp _)
theorem Vo {c:Nat->Int} {g:Int} (hg:0<g):∀k,(∀i,i<k->∃q,c i=q*g)->gF c g k=g
 |0,_=>rfl
 |k+1,h=>by
  rw[gF,Vo hg k λi hi=>h i (by omega)]
  obtain⟨q,hq⟩:=h k (Nat.lt_succ_self k)
  rw[hq,Int.natAbs_mul,Nat.gcd_eq_left (Nat.dvd_mul_left _ _)]
  omega
theorem Us {l:List Int} {d:Int} (hd:0<d) (h1:1<=l.length) (h6:l.length<=6) (hl:1<l.length->l.getD (l.length-1) 0≠0) (hin:∀i,Ct (l.getD i 0)):
  Zd (on l 0 d d) (oc l 0 d d) (d^5)=l/\∀i,i<on l 0 d d->∃q,oc l 0 d d i=q*d^5:=by
 have hd5:d^5≠0:=Int.ne_of_gt (Int.pow_pos hd)
 rcases Aag hd h1 h6 hl with⟨e1,e2⟩|⟨e1,e2⟩
 refine⟨xW (by rw[aY,e1];omega) λq hq=>?_,λi hi=>⟨_,e2 i (by omega)⟩⟩
 rw[aY,e1] at hq
 rw[uH,Jj,e1,if_pos (by omega),e2 q (by omega),Int.mul_ediv_cancel _ hd5,Afv (hin q)]
 refine⟨?_,λi hi=>by omega⟩
 rw[e2,e1]
 rfl
theorem cI {s:Sg} (hs:Uc s) (ho:Gy s) (h1:s.o=1):Bu s s.f s.t=s/\Wj s s.f s.t=false:=by
 have hh:=ho.1
 unfold Kh at hh
 have hd:0<pD s:=by show 0<s.t-s.f;omega
 have hd5:0<pD s^5:=Int.pow_pos hd
 obtain⟨x1,x2⟩:=Us hd ho.2.1.1 ho.2.1.2.1 ho.2.1.2.2.1 hs.x
 obtain⟨y1,y2⟩:=Us hd ho.2.2.1.1 ho.2.2.1.2.1 ho.2.2.1.2.2.1 hs.y
 obtain⟨z1,z2⟩:=Us hd ho.2.2.2.1.1 ho.2.2.2.1.2.1 ho.2.2.2.1.2.2.1 hs.z
 have e0:s.f-s.f=0:=by omega
 have e1:s.t-s.f=pD s:=rfl
 have g:gM (on s.x 0 (pD s) (pD s)) (on s.y 0 (pD s) (pD s)) (on s.z 0 (pD s) (pD s)) (oc s.x 0 (pD s) (pD s)) (oc s.y 0 (pD s) (pD s)) (oc s.z 0 (pD s) (pD s)) (1*pD s^5)=pD s^5:=by
  unfold gM
  rw[Int.one_mul,Vo hd5 _ x2,Vo hd5 _ y2,Vo hd5 _ z2]
 have q1:(1*pD s^5)/pD s^5=1:=by rw[Int.one_mul];exact Int.ediv_self (Int.ne_of_gt hd5)
 constructor
 unfold Bu vF
 rw[e0,e1,h1,g,q1,x1,y1,z1]
 exact AeN rfl rfl h1.symm rfl rfl rfl
 unfold Wj vE
 rw[e0,e1,h1,g,q1]
 decide
theorem nB {l:List Sg} {f t:Int}:∀n,Hz l f t n=[]->∀i,i<n->¬pA l f i<pB l t i
 |0,_,i,hi=>absurd hi (Nat.not_lt_zero i)
 |n+1,h,i,hi=>by
  by_cases hlt:pA l f n<pB l t n
  rw[Mq hlt] at h;simp at h
  rw[Ou hlt] at h
  by_cases e:i=n
  subst e;exact hlt
  exact nB n h i (by omega)
theorem AcU {l:List Sg} {f t:Int} (hok:Fm l) (hf:(l.getD 0 Sg.none).f<=f) (hft:f<t) (ht:t<=(l.getD (l.length-1) Sg.none).t):0<(Hz l f t l.length).length:=by
 rcases Nat.eq_zero_or_pos (Hz l f t l.length).length with h|h
 exfalso
 have hn:=nB _ (List.eq_nil_of_length_eq_zero h)
 have key:∀i,i<l.length->(l.getD i Sg.none).t<=f:=by
  intro i
  induction i with
  |zero=>
   intro hi
   have:=hn 0 hi
   have:¬max f (l.getD 0 Sg.none).f<min t (l.getD 0 Sg.none).t:=this
   omega
  |succ i ih=>
   intro hi
   have h1:=ih (by omega)
   have h2:=((hok.1 (i+1) hi).2 (Nat.succ_pos i)).1
   rw[Nat.add_sub_cancel] at h2
   have:¬max f (l.getD (i+1) Sg.none).f<min t (l.getD (i+1) Sg.none).t:=hn (i+1) hi
   omega
 have:=key (l.length-1) (by have:=hok.2.1;omega)
 omega
 exact h
end Go.Proofs.YtldnjomacnjhnaaGreat
namespace Go.Proofs.YtldnjomacnjhnaaGreat
open Go.RowKit
def sK (p:Pr) (i k:Nat):Nat->List Sg
 |0=>[]
 |m+1=>sK p i k m++Gv p (k+m) (Bn p.acts (k+m)) i
theorem oU (p:Pr) (i k:Nat):∀m,Ir p (k+m) i=Ir p k i++sK p i k m
 |0=>(List.append_nil _).symm
 |m+1=>by
  show Ir p (k+m) i++_=_
  rw[oU p i k m,List.append_assoc];rfl
theorem uS (p:Pr) (k i:Nat):(Ea p (k+1)).getD i V3.zero=((p.acts.getD k Ac.none).moves.getD i Mv.none).to:=by
 unfold Ea
 rw[if_neg (Nat.succ_ne_zero k),Nat.add_sub_cancel]
 show ((p.acts.getD k Ac.none).moves.map (·.to)).getD i V3.zero=_
 generalize (p.acts.getD k Ac.none).moves=ms
 rw[List.getD_eq_getElem?_getD,List.getElem?_map,List.getD_eq_getElem?_getD]
 cases ms[i]?<;>rfl
theorem cH {p:Pr} (ho:Za p) {i:Nat} (hi:i<p.names.length) (k:Nat):∀m,k+m<=p.acts.length->Bs (sK p i k m) ((Ea p k).getD i V3.zero) ((Ea p (k+m)).getD i V3.zero) (Bn p.acts k) (Bn p.acts (k+m))
 |0,_=>⟨rfl,rfl⟩
 |m+1,hk=>by
  refine Bs.app (cH ho hi k m (by omega)) ?_
  have h2:=Yt (ho.pe (k+m) i (by omega) hi)
  rw[show k+(m+1)=k+m+1 from rfl,uS]
  exact h2
theorem oV (p:Pr) (i k:Nat):∀m,(sK p i k m).length<=5*m
 |0=>Nat.zero_le _
 |m+1=>by
  have h1:=oV p i k m
  have h2:=Td p (k+m) (Bn p.acts (k+m)) i
  rw[sK,List.length_append];omega
def AbR (p:Pr) (i k:Nat):List Sg:=sK p i k (p.acts.length-k)
theorem zE {p:Pr} {k:Nat} (i:Nat) (hk:k<=p.acts.length):Ir p p.acts.length i=Ir p k i++AbR p i k:=by
 have:=oU p i k (p.acts.length-k)
 rwa [show k+(p.acts.length-k)=p.acts.length by omega] at this
theorem pJ {p:Pr} (ho:Za p) {i:Nat} (hi:i<p.names.length) {k:Nat} (hk:k<=p.acts.length):Bs (AbR p i k) ((Ea p k).getD i V3.zero) ((Ea p p.acts.length).getD i V3.zero) (Bn p.acts k) (Bn p.acts p.acts.length):=by
 have:=cH ho hi k (p.acts.length-k) (by omega)
 rwa [show k+(p.acts.length-k)=p.acts.length by omega] at this
theorem Bs.okP {l:List Sg} {a b:V3} {f t:Int} (h:Bs l a b f t) (hp:0<l.length) (hn:l.length<=256):Fm l/\Dj l:=
 ⟨⟨λj hj=>⟨(h.seg j hj).1,(h.seg j hj).2.2.2⟩,hp,hn⟩,by omega,λj=>by
  by_cases hj:j<l.length
  exact(h.seg j hj).2.1
  have e:l.getD j Sg.none=Sg.none:=by rw[List.getD_eq_getElem?_getD,List.getElem?_eq_none (by omega)];rfl
  rw[e];exact Dj.nil.2 0⟩
theorem Bs.le:∀{l:List Sg} {a b:V3} {f t:Int},Bs l a b f t->f<=t
 |[],_,_,_,_,⟨_,e⟩=>by omega
 |_::_,_,_,_,_,⟨_,_,h,hr⟩=>by have:=h.ft;have:=Bs.le hr;omega
theorem Bs.nil_of {l:List Sg} {a b:V3} {f:Int} (h:Bs l a b f f):l=[]:=by
 match l,h with
 |[],_=>rfl
 |_::_,⟨_,_,h,hr⟩=>have:=h.ft;have:=Bs.le hr;omega
theorem Jt {l r:List Sg} {a b c:V3} {f t u:Int} (h1:Bs l a b f t) (h2:Bs r b c t u) (p1:0<l.length) (p2:0<r.length) (hn:l.length+r.length<=256):Oh l r=(l++r,0):=by
 have h:=(h1.app h2).seg l.length (by rw[List.length_append];omega)
 have hm:=h.2.2.2 p1
 rw[Ld,Ld,if_pos (by omega),if_neg (Nat.lt_irrefl _),Nat.sub_self] at hm
 exact AaE (Dw (h1.okP p1 (by omega)).1) (Dw (h2.okP p2 (by omega)).1) (Dw hm) (by omega)
theorem Bs.times:∀{l:List Sg} {a b:V3} {f t:Int},Bs l a b f t->∀i,i<l.length->f<=(l.getD i Sg.none).f/\(l.getD i Sg.none).t<=t
 |s::r,_,_,f,t,⟨c,u,h,hr⟩,0,_=>by
  have:=hr.le
  exact⟨by show f<=s.f;rw[h.rows.2.2.2.1];omega,by show s.t<=t;rw[h.rows.2.2.2.2.1];omega⟩
 |s::r,_,_,f,t,⟨c,u,h,hr⟩,i+1,hi=>by
  have h1:=Bs.times hr i (by simpa using hi)
  have:=h.ft
  exact⟨by show f<=(r.getD i Sg.none).f;omega,h1.2⟩
theorem AaU {l r:List Sg} {a b c:V3} {f t u:Int} (h1:Bs l a b f t) (h2:Bs r b c t u):nA (l++r) t u=(r,0):=by
 have hl:∀i,i<l.length->¬pA (l++r) t i<pB (l++r) u i:=λi hi=>by
  have:=h1.times i hi
  show ¬max t ((l++r).getD i Sg.none).f<min u ((l++r).getD i Sg.none).t
  rw[Ld,if_pos hi];omega
 have hr:∀i,i<r.length->(l++r).getD (l.length+i) Sg.none=r.getD i Sg.none/\pA (l++r) t (l.length+i)=(r.getD i Sg.none).f/\pB (l++r) u (l.length+i)=(r.getD i Sg.none).t/\(r.getD i Sg.none).f<(r.getD i Sg.none).t:=λi hi=>by
  have h3:=h2.times i hi
  have e:(l++r).getD (l.length+i) Sg.none=r.getD i Sg.none:=by rw[Ld,if_neg (by omega),Nat.add_sub_cancel_left]
  have h4:=((h2.seg i hi).1).1
  unfold Kh at h4
  refine⟨e,?_,?_,by omega⟩
  show max t ((l++r).getD (l.length+i) Sg.none).f=_
  rw[e];omega
  show min u ((l++r).getD (l.length+i) Sg.none).t=_
  rw[e];omega
 have e1:∀n,n<=l.length->Hz (l++r) t u n=[]:=by
  intro n
  induction n with
  |zero=>intro _;rfl
  |succ n ih=>intro hn;rw[Ou (hl n (by omega)),ih (by omega)]
 have e2:∀n,n<=r.length->Hz (l++r) t u (l.length+n)=r.take n:=by
  intro n
  induction n with
  |zero=>intro _;rw[Nat.add_zero,e1 _ (Nat.le_refl _),List.take_zero]
  |succ n ih=>
   intro hn
   obtain⟨g1,g2,g3,g4⟩:=hr n (by omega)
   have h3:=h2.seg n (by omega)
   rw[show l.length+(n+1)=l.length+n+1 from rfl,Mq (by rw[g2,g3];exact g4),g1,g2,g3,(cI h3.2.1 h3.1 h3.2.2.1).1,ih (by omega),List.take_succ_eq_append_getElem (by omega)]
   congr 2
   simp[List.getD_eq_getElem?_getD,show n<r.length by omega]
 have hk:Yi (l++r) t u (l++r).length:=λj hj hlt=>by
  by_cases h:j<l.length
  exact absurd hlt (hl j h)
  have hj2:j<l.length+r.length:=by rw[<-List.length_append];exact hj
  obtain⟨m,rfl⟩:∃m,j=l.length+m:=⟨j-l.length,by omega⟩
  obtain⟨g1,g2,g3,g4⟩:=hr m (by omega)
  have h3:=h2.seg m (by omega)
  rw[g1,g2,g3]
  exact(cI h3.2.1 h3.1 h3.2.2.1).2
 rw[uJ hk,List.length_append,e2 _ (Nat.le_refl _),List.take_length]
end Go.Proofs.YtldnjomacnjhnaaGreat