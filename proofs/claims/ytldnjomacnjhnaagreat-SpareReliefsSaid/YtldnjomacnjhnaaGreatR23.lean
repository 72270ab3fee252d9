/- Part 23 of the proof of SR.row_holds, joined by program: no condition beyond the row's own. -/
import Derived.Test.YtldnjomacnjhnaaGreatR22
import Derived.Test.YtldnjomacnjhnaaGreatRows
import Derived.LaidMore
import Derived.OpenShut
import Derived.ShutString
import Derived.ChangeOld
import Derived.Lib.LaidTab
import Derived.Stop.Joined
import Derived.HandedShaped
import Derived.Deep.Fields
set_option maxRecDepth 100000
set_option maxHeartbeats 40000000
namespace Go.Proofs.YtldnjomacnjhnaaGreat.Open
open Go.ChangeShapes Go.WideShapes Go.ChangeAt Go.RowKit Go.Deep
section
variable {H:Type} {enc:TypeId×Value->H} {W:World} {n:Nat} {y:DataW H×List MemPlace} {cs:List Value}
theorem xW (hl:cs.length=3) (h:DataW.trod enc Tryz.prog W 0 (λ_=>true) true n 87 cs=some y):∃a:Ac,Aam W (rg 0 W.heap.size) a cs/\(a.name.size<=maxLen/\Cv a.len):=by
 match cs,hl with
 |[a,b,c],_=>
  obtain⟨m0,z0,h0⟩:=Gw (ty:=9) (off:=0) Tryz.underlying87 h 0 (by rfl)
  obtain⟨m1,z1,h1⟩:=Gw (ty:=3) (off:=1) Tryz.underlying87 h 1 (by rfl)
  obtain⟨m2,z2,h2⟩:=Gw (ty:=85) (off:=2) Tryz.underlying87 h 2 (by rfl)
  simp only[AaA,AdV,AcF] at h0 h1 h2
  obtain⟨s,e0,_,hs⟩:=DataW.trod_string Tryz.underlying9 h0
  obtain⟨k1,e1,f1⟩:=Il h1
  obtain⟨ad,len,cap,e2⟩:=Go.Joins.slice_form Tryz.underlying85 h2
  rw[e2] at h2
  obtain⟨l,g1,g2,g3,_⟩:=Mp Tryz.underlying85 Aeq δ h2
  obtain⟨L,L1,L2⟩:=Vl (cells:=Mv.cells) l (λcs hc=>by obtain⟨hl,n,y,ht⟩:=g2 cs hc;exact xX hl ht)
  simp at e0 e1 e2
  refine⟨⟨s,k1,L⟩,⟨.slice ad len cap,by simp[e0,e1,e2],?_⟩,hs,f1⟩
  show Da W _ 6 _ L.length (xO L)
  have hL:L.length=len:=by omega
  rw[hL]
  unfold xO
  rw[<-L2]
  exact g3
theorem lQ:∀(l:List (List Value)) (_:∀cs∈l,∃a:Ac,Aam W (rg 0 W.heap.size) a cs/\(a.name.size<=maxLen/\Cv a.len)),∃L:List Ac,L.length=l.length/\Rb W (rg 0 W.heap.size) L l.flatten/\∀a∈L,(a.name.size<=maxLen/\Cv a.len)
 |[],_=>⟨[],rfl,rfl,by simp⟩
 |cs::l,h=>by
  obtain⟨a,ha,hs⟩:=h cs (by simp)
  obtain⟨L,h1,h2,h3⟩:=lQ l (λc hc=>h c (by simp[hc]))
  refine⟨a::L,by simp[h1],⟨cs,l.flatten,by simp,ha,h2⟩,λx hx=>?_⟩
  rcases List.mem_cons.1 hx with rfl|hx
  exact hs
  exact h3 x hx
theorem open_prog2 {v:Value} {d:DataW H} {p:List MemPlace} {base:Nat} (hv:Value.okWide Tryz.prog W .any base 31 v) (h:DataW.Trod enc Tryz.prog W 0 (λ_=>true) true 31 v d p):
  ∃(vn vh va:Value) (pr:Pr),v= .agg #[vn,vh,va]/\Ie W W.heap.size vn vh va pr/\(∀s∈pr.names,s.size<=maxLen)/\(∀a∈pr.acts,(a.name.size<=maxLen/\Cv a.len)):=by
 obtain⟨v0,v1,v2,y0,y1,y2,n,rfl,_,_,h0,h1,h2⟩:=Go.Joins.open_agg3 Tryz.underlying31 κ κ hv h
 obtain⟨a0,l0,c0,e0⟩:=Go.Joins.slice_form Tryz.underlying28 h0
 obtain⟨a1,l1,c1,e1⟩:=Go.Joins.slice_form Tryz.underlying22 h1
 obtain⟨a2,l2,c2,e2⟩:=Go.Joins.slice_form Tryz.underlying29 h2
 obtain rfl:v0= .slice a0 l0 c0:=by simpa using e0
 obtain rfl:v1= .slice a1 l1 c1:=by simpa using e1
 obtain rfl:v2= .slice a2 l2 c2:=by simpa using e2
 obtain⟨N,hN,sN,_,zN⟩:=rF h0
 obtain⟨lh,g1,g2,g3,_⟩:=Mp Tryz.underlying22 AaB δ h1
 obtain⟨Hm,H1,H2⟩:=Vl (cells:=λv:V3=>[.int .i64 v.x,.int .i64 v.y,.int .i64 v.z]) lh (λcs hc=>by obtain⟨hl,n,y,ht⟩:=g2 cs hc;exact bR hl ht)
 obtain⟨la,k1,k2,k3,_⟩:=Mp Tryz.underlying29 Afj δ h2
 obtain⟨Ac,A1,A2,A3⟩:=lQ la (λcs hc=>by obtain⟨hl,n,y,ht⟩:=k2 cs hc;exact xW hl ht)
 refine⟨_,_,_,⟨N,Hm,Ac⟩,rfl,⟨sN,?_,la.flatten,?_,A2⟩,zN,A3⟩
 have hL:Hm.length=l1:=by omega
 show Cc W 0 W.heap.size 3 _ Hm.length (Iz Hm)
 rw[hL]
 unfold Iz
 rw[<-H2]
 exact g3
 have hL:Ac.length=l2:=by omega
 show Cc W 0 W.heap.size 3 _ Ac.length _
 rw[hL]
 exact k3
theorem nU {a0:Option Addr} {len0 cap0 fuel:Nat} {t e:TypeId} (ht:Tryz.prog.underlying t=some (.slice e)) (h:DataW.trod enc Tryz.prog W 0 (λ_=>true) true fuel t [.slice a0 len0 cap0]=some y):len0<=cap0:=by
 rcases open_slice ht h with⟨hcs,_⟩|⟨x,n,c,m,nn,D,Pl,hcs,_,hl,hm,hmm,_,hi⟩
 simp at hcs
 obtain⟨rfl,rfl,rfl⟩:=hcs
 exact Nat.le_refl _
 simp at hcs
 obtain⟨rfl,rfl,rfl⟩:=hcs
 have hmm':m=cap0:=by simpa using hmm
 omega
theorem open_case {v:Value} {d:DataW H} {p:List MemPlace} {base:Nat} (hv:Value.okWide Tryz.prog W .any base 33 v) (h:DataW.Trod enc Tryz.prog W 0 (λ_=>true) true 33 v d p):
  ∃c:Cs,v= .agg #[.int .i64 c.craft,.int .i64 c.act]/\Py c:=by
 obtain⟨v0,v1,y0,y1,n,rfl,_,_,h0,h1⟩:=Go.Joins.open_agg2 Tryz.underlying33 κ κ hv h
 obtain⟨k0,e0,f0⟩:=Il h0
 obtain⟨k1,e1,f1⟩:=Il h1
 simp at e0 e1
 exact⟨⟨k0,k1⟩,by simp[e0,e1],⟨f0,f1⟩⟩
end
end Go.Proofs.YtldnjomacnjhnaaGreat.Open
namespace Go.Proofs.YtldnjomacnjhnaaGreat
open Go.RowKit
theorem vI {w:World} {D:Nat->Prop} {l:List V3} {v:Value} (h:Da w D 3 v l.length (Iz l)) {E:Bo} (hw:E.w=w) (hD:∀b,D b->E.D b):VR E (Fh l) v:=
 Og h hw hD λi j hi hj=>by
  have:=Ml (λv:V3=>[Value.int .i64 v.x,.int .i64 v.y,.int .i64 v.z]) 3 (λ_=>rfl) l i j V3.zero hi hj
  unfold Iz
  rw[this]
  match j,hj with
  |0,_=>exact .lit _ _
  |1,_=>exact .lit _ _
  |2,_=>exact .lit _ _
theorem Ae2 {w:World} {D:Nat->Prop} {l:List Mv} {v:Value} (h:Da w D 6 v l.length (xO l)) {E:Bo} (hw:E.w=w) (hD:∀b,D b->E.D b):VR E (Abv l) v:=
 Og h hw hD λi j hi hj=>by
  have:=Ml Mv.cells 6 (λ_=>rfl) l i j Mv.none hi hj
  unfold xO
  rw[this]
  match j,hj with
  |0,_=>exact .lit _ _
  |1,_=>exact .lit _ _
  |2,_=>exact .lit _ _
  |3,_=>exact .lit _ _
  |4,_=>exact .lit _ _
  |5,_=>exact .lit _ _
theorem Abx {w:World} {D:Nat->Prop} {l:List ByteArray} {v:Value} (h:Da w D 1 v l.length (strs l)) {E:Bo} (hw:E.w=w) (hD:∀b,D b->E.D b):VR E (Dp l) v:=
 Og h hw hD λi j hi hj=>by
  obtain rfl:j=0:=by omega
  have e:(strs l).getD (i*1+0) undef= .string (l.getD i ByteArray.empty):=by simp[strs,List.getD_eq_getElem?_getD,hi]
  rw[e]
  exact .lit _ _
theorem Ac9 {w:World} {D:Nat->Prop} {l:List Ac} {v:Value} {cs:List Value} (h:Da w D 3 v l.length cs) (ha:Rb w D l cs) {E:Bo} (hw:E.w=w) (hD:∀b,D b->E.D b):VR E (Ek l) v:=
 Og h hw hD λi j hi hj=>by
  obtain⟨vm,hm,hat⟩:=ha.at_ hi
  have e:l.getD i Ac.none=l[i]:=by rw[List.getD_eq_getElem?_getD,List.getElem?_eq_getElem hi];rfl
  have g:∀u,[Value.string l[i].name,.int .i64 l[i].len,vm][j]?=some u->cs.getD (i*3+j) undef=u:=λu hu=>by
   rw[List.getD_eq_getElem?_getD,hat j u hu];rfl
  rw[e]
  match j,hj with
  |0,_=>rw[g _ rfl];exact .lit _ _
  |1,_=>rw[g _ rfl];exact .lit _ _
  |2,_=>rw[g _ rfl];exact Ae2 (E:=E.fz) hm hw hD
theorem Adt {w:World} {hi:Nat} {vn vh va:Value} {p:Pr} (h:Ie w hi vn vh va p) {E:Bo} (hw:E.w=w) (hD:∀b,b<hi->E.D b):VR E (Ev p) (.agg #[vn,vh,va]):=by
 obtain⟨cs,k1,k2⟩:=h.acts
 have hD2:∀b,rg 0 hi b->E.D b:=λb hb=>hD b hb.2
 refine .agg _ _ _ rfl λi hi=>?_
 have h3:i<3:=hi
 match i,h3 with
 |0,_=>exact Abx h.names hw hD2
 |1,_=>exact vI h.homes hw hD2
 |2,_=>exact Ac9 k1 k2 hw hD2
theorem AF.call {P:Program} {f:FuncId} {args:List AV} {v:Value} (h:AF P f args (.lit v)) (W:World) (vs:Array Value) (hn:vs.size=args.length) (hv:∀E:Bo,E.w=W->(∀b,b<W.heap.size->E.D b)->∀i,i<args.length->VR E (args.getD i .top) (vs.getD i undef)):Calls P f vs W λe w'=>e= .returned v/\Below W.heap.size W w':=by
 refine(h { π:=λ_=>0,cap:=λ_=>0,A:=λ_=>False,D:=λb=>b<W.heap.size,w:=W } vs (λb hb=>hb) hn λi hi=>hv _ rfl (λb hb=>hb) i hi).mono ?_
 rintro e w' ⟨u,D',rfl,hr,hb,_⟩
 exact⟨by rw[hr.lit_inv],hb⟩
end Go.Proofs.YtldnjomacnjhnaaGreat
namespace Go.Proofs.YtldnjomacnjhnaaGreat
end Go.Proofs.YtldnjomacnjhnaaGreat
namespace Go.Proofs.YtldnjomacnjhnaaGreat
open Go.Proofs.Tryz
open Go.RowKit
theorem xD {a b:List Int} (h:a.length=b.length) (hq:∀q,q<a.length->a.getD q 0=b.getD q 0):a=b:=by
 refine List.ext_getElem h λi h1 h2=>?_
 have:=hq i h1
 rwa [List.getD_eq_getElem?_getD,List.getD_eq_getElem?_getD,List.getElem?_eq_getElem h1,List.getElem?_eq_getElem h2] at this
theorem AeF {s t:Sg} (h1:s.f=t.f) (h2:s.t=t.t) (h3:s.o=t.o) (h4:s.x=t.x) (h5:s.y=t.y) (h6:s.z=t.z):s=t:=by
 cases s;cases t;simp_all
theorem sR {f:FuncId} {args args':List AV} {r r':AV} (h:AF Tryz.prog f args r) (hl:args'.length=args.length) (ha:∀i,i<args.length->∀E v,VR E (args'.getD i .top) v->VR E (args.getD i .top) v) (hr:∀E v,VR E r v->VR E r' v):AF Tryz.prog f args' r':=λE vs hD hn hv=>by
 refine Calls.mono (h E vs hD ω λi hi=>ha i hi _ _ (hv i ω)) ?_
 rintro e w' ⟨v,D',h1,h2,h3⟩
 exact⟨v,D',h1,hr _ _ h2,h3⟩
theorem gI (l:List V3) (n:Nat) (v:V3) (hn:n<=1000000):AF Tryz.prog 34 [.slc 3 n λi=>Gh (l.getD i V3.zero),Gh v] (.bool (bP (∃q,q<n/\(l.getD q V3.zero).x=v.x/\(l.getD q V3.zero).y=v.y/\(l.getD q V3.zero).z=v.z))):=
 sR (kZ l n v hn) rfl (λi hi E u h=>by
  match i,hi with
  |0,_=>cases h;assumption
  |1,_=>exact h) λ_ _ h=>h
theorem eA (l:List Int) (M:Int) (hl:l.length<=1000000):AF Tryz.prog 35 [Bq l,.int 0,.int M] (.bool (bP (Ok l M))):=by
 refine Ch func35 rfl λB D0 hA0=>?_
 refine Ae 12 (Em 12 ((l.length:Int)<1) (λhx1 hx1d=>?_) (λhx1 hx1d=>?_))
 ·
  exact Ae 31 (Fz (.bool false) (congrArg AV.bool (As (by rintro⟨g1,g2,g3⟩;first|omega|(have:=(g3 0 ω).1;omega)|(have:=(g3 (l.length-1) ω).2.1;omega)|(have:=(g3 (1+k) ω).2.2 ω;rw[Nat.add_sub_cancel_left] at this;omega))).symm))
 ·
  refine Ae 5 (Em 17 ((16:Int)<(l.length:Int)) (λhx2 hx2d=>?_) (λhx2 hx2d=>?_))
  ·
   exact Ae 26 (Fz (.bool false) (congrArg AV.bool (As (by rintro⟨g1,g2,g3⟩;first|omega|(have:=(g3 0 ω).1;omega)|(have:=(g3 (l.length-1) ω).2.1;omega)|(have:=(g3 (1+k) ω).2.2 ω;rw[Nat.add_sub_cancel_left] at this;omega))).symm))
  ·
   refine Ae 1 (Gg 0 l.length (Ae 5 (Em 24 ((l).getD 0 0<0) (λhx3 hx3d=>?_) (λhx3 hx3d=>?_))))
   ·
    exact Ae 19 (Fz (.bool false) (congrArg AV.bool (As (by rintro⟨g1,g2,g3⟩;first|omega|(have:=(g3 0 ω).1;omega)|(have:=(g3 (l.length-1) ω).2.1;omega)|(have:=(g3 (1+k) ω).2.2 ω;rw[Nat.add_sub_cancel_left] at this;omega))).symm))
   ·
    refine Ae 3 (Dm ((l.length:Int)-1) ((l.length-1:Nat):Int) (Gg (l.length-1) l.length (Ae 6 (Em 33 (M<(l).getD (l.length-1) 0) (λhx4 hx4d=>?_) (λhx4 hx4d=>?_)))))
    ·
     exact Ae 8 (Fz (.bool false) (congrArg AV.bool (As (by rintro⟨g1,g2,g3⟩;first|omega|(have:=(g3 0 ω).1;omega)|(have:=(g3 (l.length-1) ω).2.1;omega)|(have:=(g3 (1+k) ω).2.2 ω;rw[Nat.add_sub_cancel_left] at this;omega))).symm))
    ·
     refine Ae 7 (Bx (.sl 1 (l.length-1) (λxi=>(λi0=> .int ((l).getD i0 0)) (1+xi))) .none (jP 23 (.tmp 34) (some (.const (.int .i64 1))) none κ underlying23 1 l.length sizeOf3 (λi0=> .int ((l).getD i0 0)) κ 1 l.length (.inr ⟨(.const (.int .i64 1)),1,rfl,κ,ω⟩) (.inl ⟨rfl,rfl⟩) ω ω) (Ae 5 (Mi [0,35,36,37] (l.length-1) (λk=>∀q,q<k->l.getD q 0<l.getD (1+q) 0) (λk=>⟨[(0,Bq l),(35,.sl 1 (l.length-1) (λxi=>(λi0=> .int ((l).getD i0 0)) (1+xi))),(36,.int ((l.length-1:Nat):Int)),(37,.int (k:Int))],[],0,49⟩) (λq hq=>absurd hq (Nat.not_lt_zero q)) (λk hkn hFk J1 hJ1=>?_))))
     refine Ae 6 (Em 38 ((k:Int)<((l.length-1:Nat):Int)) (λhx5 hx5d=>?_) (λhx5 hx5d=>?_))
     ·
      refine Ae 8 (Gg k (l.length-1) (Ae 10 (Gg k l.length (Ae 4 (Em 47 ((l).getD (1+k) 0<=(l).getD k 0) (λhx6 hx6d=>?_) (λhx6 hx6d=>?_))))))
      ·
       exact Ae 12 (Fz (.bool false) (congrArg AV.bool (As (by rintro⟨g1,g2,g3⟩;first|omega|(have:=(g3 0 ω).1;omega)|(have:=(g3 (l.length-1) ω).2.1;omega)|(have:=(g3 (1+k) ω).2.2 ω;rw[Nat.add_sub_cancel_left] at this;omega))).symm))
      ·
       exact Ae 5 (Dm ((k:Int)+1) ((k+1:Nat):Int) (Ae 2 (Ja [0,35,36,37] (hJ1 ω (λq hq=>(Nat.lt_or_ge q k).elim (λg=>hFk q g) λg=>by have e:q=k:=(ω);subst e;omega)))))
     ·
      exact Ae 12 (Fz (.bool true) (congrArg AV.bool (Ee (Ad1 ω ω ω ω (λi hi=>hFk i ω))).symm))
theorem Xr (l:List Int) (M:Int) (hl:l.length<=1000000):AF Tryz.prog 36 [Bq l,.int M] (.bool (bP (Ok l M))):=by
 refine Ch func36 rfl λB D0 hA0=>?_
 refine Ae 12 (Mi [0,1,5] l.length (λi=>∀q,q<i->0<=l.getD q 0/\l.getD q 0<=M/\(0<q->l.getD (q-1) 0<l.getD q 0)) (λi=>⟨[(0,Bq l),(1,.int M),(5,.int (i:Int))],[],0,49⟩) (λq hq=>absurd hq (Nat.not_lt_zero q)) (λi hin hFi J1 hJ1=>?_))
 refine Ae 9 (Em 9 ((i:Int)<(l.length:Int)) (λhx1 hx1d=>?_) (λhx1 hx1d=>?_))
 ·
  refine Ae 6 (zK ((l).getD i 0<0) (λhx2 hx2d=>?_) (λhx2 hx2d=>?_))
  ·
   exact He [(2,Cy (Bq l) i,.none),(4,.bool true,.none)] [0,1,5,40] ⟨Hs i l.length,kN hx2,trivial⟩ (Ae 13 (Fz (.bool false) (congrArg AV.bool ((As (by rintro⟨g1,g2,g3⟩;first|omega|(have:=(g3 i ω).1;omega)|(have:=(g3 i ω).2.1;omega)|(have:=(g3 i ω).2.2 ω;omega))).symm))))
  ·
   refine zK (M<(l).getD i 0) (λhx3 hx3d=>?_) (λhx3 hx3d=>?_)
   ·
    exact He [(2,Cy (Bq l) i,.none),(4,.bool false,.none),(8,Cy (Bq l) i,.none),(11,.bool true,.none)] [0,1,5,40] ⟨Hs i l.length,kN hx2,Hs i l.length,kN hx3,trivial⟩ (Ae 13 (Fz (.bool false) (congrArg AV.bool ((As (by rintro⟨g1,g2,g3⟩;first|omega|(have:=(g3 i ω).1;omega)|(have:=(g3 i ω).2.1;omega)|(have:=(g3 i ω).2.2 ω;omega))).symm))))
   ·
    refine zK ((0:Int)<(i:Int)) (λhx4 hx4d=>?_) (λhx4 hx4d=>?_)
    ·
     refine He [(2,Cy (Bq l) i,.none),(4,.bool false,.none),(8,Cy (Bq l) i,.none),(11,.bool false,.none),(15,.bool true,.none),(19,Cy (Bq l) i,.none),(23,.int ((i-1:Nat):Int),.none),(24,Cy (Bq l) (i-1),.none)] [0,1,5,40] ⟨Hs i l.length,kN hx2,Hs i l.length,kN hx3,kN hx4,Hs i l.length,Bb (Bz (v:= .int .i64 (IntKind.wrap .i64 ((i:Int)-1))) (v':= .int .i64 ((i-1:Nat):Int)) _ κ rfl κ (λw=>by kernel_rfl) (congrArg (Value.int .i64) ((IntWalk.i64_in _ ω).trans ω))),Hs (i-1) l.length,trivial⟩ (Ae 1 (Em 40 ((l).getD i 0<=(l).getD (i-1) 0) (λhx5 hx5d=>?_) (λhx5 hx5d=>?_)))
     ·
      exact Ae 12 (Fz (.bool false) (congrArg AV.bool ((As (by rintro⟨g1,g2,g3⟩;first|omega|(have:=(g3 i ω).1;omega)|(have:=(g3 i ω).2.1;omega)|(have:=(g3 i ω).2.2 ω;omega))).symm)))
     ·
      exact Ae 6 (Dm ((i:Int)+1) ((i+1:Nat):Int) (Ae 2 (Ja [0,1,5] (hJ1 ω (λq hq=>(Nat.lt_or_ge q i).elim (λg=>hFi q g) λg=>by have e:q=i:=(ω);subst e;exact⟨ω,ω,λh0=>by omega⟩)))))
    ·
     exact He [(2,Cy (Bq l) i,.none),(4,.bool false,.none),(8,Cy (Bq l) i,.none),(11,.bool false,.none),(15,.bool false,.none)] [0,1,5,40] ⟨Hs i l.length,kN hx2,Hs i l.length,kN hx3,kN hx4,trivial⟩ (Ae 7 (Dm ((i:Int)+1) ((i+1:Nat):Int) (Ae 2 (Ja [0,1,5] (hJ1 ω (λq hq=>(Nat.lt_or_ge q i).elim (λg=>hFi q g) λg=>by have e:q=i:=(ω);subst e;exact⟨ω,ω,λh0=>by omega⟩))))))
 ·
  refine Ae 12 (Em 44 ((1:Int)<=(l.length:Int)) (λhx6 hx6d=>?_) (λhx6 hx6d=>?_))
  ·
   exact Ae 8 (Fz (.bool (decide ((l.length:Int)<=16))) (congrArg AV.bool (if hz:(l.length:Int)<=16 then (decide_eq_true hz).trans (Ee ⟨ω,ω,λq hq=>hFi q ω⟩).symm else (decide_eq_false hz).trans ((As (by rintro⟨g1,g2,g3⟩;first|omega|(have:=(g3 i ω).1;omega)|(have:=(g3 i ω).2.1;omega)|(have:=(g3 i ω).2.2 ω;omega))).symm))))
  ·
   exact Ae 8 (Fz (.bool false) (congrArg AV.bool ((As (by rintro⟨g1,g2,g3⟩;first|omega|(have:=(g3 i ω).1;omega)|(have:=(g3 i ω).2.1;omega)|(have:=(g3 i ω).2.2 ω;omega))).symm)))
theorem dC (r:Rv) (hr:Wr r):AF Tryz.prog 11 [Hd r] (.bool (bP (Mw r))):=by
 have h1:=hr.n
 have h2:=hr.w
 have h3:=hr.s
 refine Ch func11 rfl λB D0 hA0=>?_
 refine Ae 14 (Em 9 ((r.homes.length:Int)<1) (λhx1 hx1d=>?_) (λhx1 hx1d=>?_))
 ·
  exact Ae 31 (Fz (.bool false) (congrArg AV.bool (As (by rintro⟨⟨g5,g6,g7,g8,g9⟩,g2,g3,g4⟩;first|omega|(have:=(g2 i ω).2 j ω;omega))).symm))
 ·
  refine Ae 6 (Em 15 ((8:Int)<(r.homes.length:Int)) (λhx2 hx2d=>?_) (λhx2 hx2d=>?_))
  ·
   exact Ae 25 (Fz (.bool false) (congrArg AV.bool (As (by rintro⟨⟨g5,g6,g7,g8,g9⟩,g2,g3,g4⟩;first|omega|(have:=(g2 i ω).2 j ω;omega))).symm))
  ·
   refine Ae 5 (Em 20 (r.flight<4) (λhx3 hx3d=>?_) (λhx3 hx3d=>?_))
   ·
    exact Ae 20 (Fz (.bool false) (congrArg AV.bool (As (by rintro⟨⟨g5,g6,g7,g8,g9⟩,g2,g3,g4⟩;first|omega|(have:=(g2 i ω).2 j ω;omega))).symm))
   ·
    refine Ae 5 (Em 25 ((3600000:Int)<r.flight) (λhx4 hx4d=>?_) (λhx4 hx4d=>?_))
    ·
     exact Ae 15 (Fz (.bool false) (congrArg AV.bool (As (by rintro⟨⟨g5,g6,g7,g8,g9⟩,g2,g3,g4⟩;first|omega|(have:=(g2 i ω).2 j ω;omega))).symm))
    ·
     refine Ae 2 (Nn (.int .i64 (Int.tmod r.flight 4)) (.int .i64 (tm4 r.flight)) ?_ rfl)
     refine Ae 4 (AeQ 30 (tm4 r.flight=0) (λhx5 hx5d=>?_) (λhx5 hx5d=>?_))
     ·
      refine Ae 13 (Mi [1,32,33,34] r.homes.length (λi=>∀q,q<i->De 1048576 [(r.homes.getD q V3.zero).x,(r.homes.getD q V3.zero).y,(r.homes.getD q V3.zero).z]=true/\∀j,j<q->¬((r.homes.getD j V3.zero).x=(r.homes.getD q V3.zero).x/\(r.homes.getD j V3.zero).y=(r.homes.getD q V3.zero).y/\(r.homes.getD j V3.zero).z=(r.homes.getD q V3.zero).z)) (λi=>⟨[(1,.ptr 0 0),(32,Ib r.homes),(33,.int (r.homes.length:Int)),(34,.int (i:Int))],[(0,.box 25 [Ib r.homes,.int r.flight,Bq r.waits,Bq r.rises])],1,59⟩) (λq hq=>absurd hq (Nat.not_lt_zero q)) (λi hin hFi J1 hJ1=>?_))
      refine Ae 6 (Em 35 ((i:Int)<(r.homes.length:Int)) (λhx6 hx6d=>?_) (λhx6 hx6d=>?_))
      ·
       refine Ae 8 (Gg i r.homes.length (Ae 7 ?_))
       refine Ea (De 1048576 [(r.homes.getD i V3.zero).x,(r.homes.getD i V3.zero).y,(r.homes.getD i V3.zero).z]) (λhx7=>?_) (λhx7=>?_)
       ·
        refine He [(1,.bool true,.none),(7,.slc 3 i (λi0=>Gh (r.homes.getD i0 V3.zero)),.none),(9,_,.none)] [1,32,33,34,49] ⟨xA hx7 (Eg (Fl (r.homes.getD i V3.zero))),Bb (Tp 22 (.tmp 44) (.tmp 45) κ underlying22 3 r.homes.length sizeOf36 (λi0=>Gh (r.homes.getD i0 V3.zero)) κ i (i:Int) κ ω ω),Eg (gI r.homes i (r.homes.getD i V3.zero) ω),trivial⟩ (Ae 1 (kK 49 (bP (∃q,q<i/\(r.homes.getD q V3.zero).x=(r.homes.getD i V3.zero).x/\(r.homes.getD q V3.zero).y=(r.homes.getD i V3.zero).y/\(r.homes.getD q V3.zero).z=(r.homes.getD i V3.zero).z)) (λhx8=>?_) (λhx8=>?_)))
        ·
         exact Ae 12 (Fz (.bool false) (congrArg AV.bool (As (by rintro⟨⟨g5,g6,g7,g8,g9⟩,g2,g3,g4⟩;first|omega|(obtain⟨q,hq,hc⟩:=Gi hx8;exact(g2 i ω).2 q hq hc)|(have:=(g2 i ω).2 j ω;omega))).symm))
        ·
         exact Ae 5 (Dm ((i:Int)+1) ((i+1:Nat):Int) (Ae 2 (Fu [1,32,33,34] [(0,0)] 1 0 hA0 [] trivial (hJ1 ω (λq hq=>(Nat.lt_or_ge q i).elim (λg=>hFi q g) λg=>by have e:q=i:=(ω);subst e;exact⟨hx7,λj hj hc=>Tz hx8 ⟨j,hj,hc⟩⟩)))))
       ·
        exact He [(1,.bool false,.none)] [1,32,33,34,49] ⟨xA hx7 (Eg (Fl (r.homes.getD i V3.zero))),trivial⟩ (Ae 13 (Fz (.bool false) (congrArg AV.bool (As (by rintro⟨⟨g5,g6,g7,g8,g9⟩,g2,g3,g4⟩;first|omega|(have g:=(g2 i ω).1;rw[hx7] at g;exact Bool.noConfusion g)|(have:=(g2 i ω).2 j ω;omega))).symm)))
      ·
       refine Ae 10 (Df (eA r.waits 3600000 ω) (Ae 1 (kK 54 (bP (Ok r.waits 3600000)) (λhx9=>?_) (λhx9=>?_))))
       ·
        exact Ae 2 (Df (eA r.rises 1048576 ω) (Ae 5 (Fz (.bool (bP (Ok r.rises 1048576))) (congrArg AV.bool (tC ⟨λg=>⟨⟨ω,ω,ω,ω,ω⟩,λq hq=>hFi q ω,Gi hx9,g⟩,λg=>g.2.2.2⟩)))))
       ·
        exact Ae 8 (Fz (.bool false) (congrArg AV.bool (As (by rintro⟨⟨g5,g6,g7,g8,g9⟩,g2,g3,g4⟩;first|omega|exact Tz hx9 g3|(have:=(g2 i ω).2 j ω;omega))).symm))
     ·
      exact Ae 8 (Fz (.bool false) (congrArg AV.bool (As (by rintro⟨⟨g5,g6,g7,g8,g9⟩,g2,g3,g4⟩;first|omega|(have:=(g2 i ω).2 j ω;omega))).symm))
theorem Tk (r:Rv) (hr:Wr r):AF Tryz.prog 12 [Hd r] (.bool (bP (Mw r))):=by
 have h1:=hr.n
 have h2:=hr.w
 have h3:=hr.s
 refine Ch func12 rfl λB D0 hA0=>?_
 refine Ae 13 (Mi [1,3] r.homes.length (λi=>∀q,q<i->De 1048576 [(r.homes.getD q V3.zero).x,(r.homes.getD q V3.zero).y,(r.homes.getD q V3.zero).z]=true/\∀j,j<q->¬((r.homes.getD j V3.zero).x=(r.homes.getD q V3.zero).x/\(r.homes.getD j V3.zero).y=(r.homes.getD q V3.zero).y/\(r.homes.getD j V3.zero).z=(r.homes.getD q V3.zero).z)) (λi=>⟨[(1,.ptr 0 0),(3,.int (i:Int))],[(0,.box 25 [Ib r.homes,.int r.flight,Bq r.waits,Bq r.rises])],1,71⟩) (λq hq=>absurd hq (Nat.not_lt_zero q)) (λi hin hFi J1 hJ1=>?_))
 refine Ae 10 (Em 9 ((i:Int)<(r.homes.length:Int)) (λhx1 hx1d=>?_) (λhx1 hx1d=>?_))
 ·
  refine Ae 11 (Gg i r.homes.length (Ae 1 (Df (Fl (r.homes.getD i V3.zero)) (Ae 3 (Yx 18 (De 1048576 [(r.homes.getD i V3.zero).x,(r.homes.getD i V3.zero).y,(r.homes.getD i V3.zero).z]) (λhx2=>?_) (λhx2=>?_))))))
  ·
   refine Ae 9 (Mi [1,3,4] i (λj=>∀u,u<j->¬((r.homes.getD u V3.zero).x=(r.homes.getD i V3.zero).x/\(r.homes.getD u V3.zero).y=(r.homes.getD i V3.zero).y/\(r.homes.getD u V3.zero).z=(r.homes.getD i V3.zero).z)) (λj=>⟨[(1,.ptr 0 0),(3,.int (i:Int)),(4,.int (j:Int))],[(0,.box 25 [Ib r.homes,.int r.flight,Bq r.waits,Bq r.rises])],1,71⟩) (λq hq=>absurd hq (Nat.not_lt_zero q)) (λj hjn hFj J2 hJ2=>?_))
   refine Ae 8 (Em 21 ((j:Int)<(i:Int)) (λhx3 hx3d=>?_) (λhx3 hx3d=>?_))
   ·
    refine Ae 6 (He [(3,Cy (Ib r.homes) j,.none),(8,Cy (Ib r.homes) i,.none),(10,.bool (decide ((r.homes.getD j V3.zero).x=(r.homes.getD i V3.zero).x/\(r.homes.getD j V3.zero).y=(r.homes.getD i V3.zero).y/\(r.homes.getD j V3.zero).z=(r.homes.getD i V3.zero).z)),.none)] [1,3,4,34] ⟨Hs j r.homes.length,Hs i r.homes.length,Bb (Zj 36 36 (.tmp 28) (.tmp 33) κ _ _ κ κ κ (decide ((r.homes.getD j V3.zero).x=(r.homes.getD i V3.zero).x/\(r.homes.getD j V3.zero).y=(r.homes.getD i V3.zero).y/\(r.homes.getD j V3.zero).z=(r.homes.getD i V3.zero).z)) (iL _ _ _ _ _ _)),trivial⟩ (Ae 1 (Em 34 ((r.homes.getD j V3.zero).x=(r.homes.getD i V3.zero).x/\(r.homes.getD j V3.zero).y=(r.homes.getD i V3.zero).y/\(r.homes.getD j V3.zero).z=(r.homes.getD i V3.zero).z) (λhx4 hx4d=>?_) (λhx4 hx4d=>?_))))
    ·
     exact Ae 16 (Fz (.bool false) (congrArg AV.bool (As (by rintro⟨⟨g5,g6,g7,g8,g9⟩,g2,g3,g4⟩;first|omega|(have:=(g2 i ω).2 j ω;omega))).symm))
    ·
     exact Ae 6 (Dm ((j:Int)+1) ((j+1:Nat):Int) (Ae 2 (Ja [1,3,4] (hJ2 ω (λu hr=>(Nat.lt_or_ge u j).elim (λg=>hFj u g) λg=>by have e:u=j:=(ω);subst e;omega)))))
   ·
    exact Ae 9 (Dm ((i:Int)+1) ((i+1:Nat):Int) (Ae 2 (Ja [1,3] (hJ1 ω (λq hq=>(Nat.lt_or_ge q i).elim (λg=>hFi q g) λg=>by have e:q=i:=(ω);subst e;exact⟨hx2,λj2 hj=>hFj j2 ω⟩)))))
  ·
   exact Ae 13 (Fz (.bool false) (congrArg AV.bool (As (by rintro⟨⟨g5,g6,g7,g8,g9⟩,g2,g3,g4⟩;first|omega|(have g:=(g2 i ω).1;rw[hx2] at g;exact Bool.noConfusion g)|(have:=(g2 i ω).2 j ω;omega))).symm))
 ·
  refine Ae 13 (Em 39 ((1:Int)<=(r.homes.length:Int)) (λhx5 hx5d=>?_) (λhx5 hx5d=>?_))
  ·
   refine Ae 6 (Em 45 ((r.homes.length:Int)<=8) (λhx6 hx6d=>?_) (λhx6 hx6d=>?_))
   ·
    refine Ae 5 (Em 50 ((4:Int)<=r.flight) (λhx7 hx7d=>?_) (λhx7 hx7d=>?_))
    ·
     refine Ae 5 (Em 55 (r.flight<=3600000) (λhx8 hx8d=>?_) (λhx8 hx8d=>?_))
     ·
      refine Ae 2 (Nn (.int .i64 (Int.tmod r.flight 4)) (.int .i64 (tm4 r.flight)) ?_ rfl)
      refine Ae 3 (Em 61 (tm4 r.flight=0) (λhx9 hx9d=>?_) (λhx9 hx9d=>?_))
      ·
       refine Ae 2 (Df (Xr r.waits 3600000 ω) (Ae 2 (kK 66 (bP (Ok r.waits 3600000)) (λhx10=>?_) (λhx10=>?_))))
       ·
        exact Ae 2 (Df (Xr r.rises 1048576 ω) (Ae 5 (Fz (.bool (bP (Ok r.rises 1048576))) (congrArg AV.bool (tC ⟨λg=>⟨⟨ω,ω,ω,ω,ω⟩,λq hq=>hFi q ω,Gi hx10,g⟩,λg=>g.2.2.2⟩)))))
       ·
        exact Ae 8 (Fz (.bool false) (congrArg AV.bool (As (by rintro⟨⟨g5,g6,g7,g8,g9⟩,g2,g3,g4⟩;first|omega|exact Tz hx10 g3|(have:=(g2 i ω).2 j ω;omega))).symm))
      ·
       exact Ae 13 (Fz (.bool false) (congrArg AV.bool (As (by rintro⟨⟨g5,g6,g7,g8,g9⟩,g2,g3,g4⟩;first|omega|(have:=(g2 i ω).2 j ω;omega))).symm))
     ·
      exact Ae 19 (Fz (.bool false) (congrArg AV.bool (As (by rintro⟨⟨g5,g6,g7,g8,g9⟩,g2,g3,g4⟩;first|omega|(have:=(g2 i ω).2 j ω;omega))).symm))
    ·
     exact Ae 24 (Fz (.bool false) (congrArg AV.bool (As (by rintro⟨⟨g5,g6,g7,g8,g9⟩,g2,g3,g4⟩;first|omega|(have:=(g2 i ω).2 j ω;omega))).symm))
   ·
    exact Ae 29 (Fz (.bool false) (congrArg AV.bool (As (by rintro⟨⟨g5,g6,g7,g8,g9⟩,g2,g3,g4⟩;first|omega|(have:=(g2 i ω).2 j ω;omega))).symm))
  ·
   exact Ae 35 (Fz (.bool false) (congrArg AV.bool (As (by rintro⟨⟨g5,g6,g7,g8,g9⟩,g2,g3,g4⟩;first|omega|(have:=(g2 i ω).2 j ω;omega))).symm))
abbrev dR (v:V3):Value:= .agg #[.int .i64 v.x,.int .i64 v.y,.int .i64 v.z]
def dO (p:Pr) (r:Rv) (c:Cs) (w:Int):AV:=
 if Kx p c (Ic p r c w)<p.acts.length then .lit (.tuple #[.int .i64 (Bl p c+w),.int .i64 (Bl p c+w+r.flight),.int .i64 (Kx p c (Ic p r c w):Int),.int .i64 (Br p.acts (Kx p c (Ic p r c w)+1)),dR (kI p c (Kx p c (Ic p r c w)))])
 else .lit (.tuple #[.int .i64 (Bl p c+w),.int .i64 (Bl p c+w+r.flight),.int .i64 (-1),.int .i64 (Br p.acts p.acts.length),.agg #[.int .i64 0,.int .i64 0,.int .i64 0]])
theorem AbB {p:Pr} {r:Rv} {c:Cs} {w:Int} {i:Nat} (hi:i<p.acts.length) (h1:c.act.toNat+1<=i) (h3:∀q,c.act.toNat+1<=q->q<i->Br p.acts (q+1)<Ic p r c w) (h4:Ic p r c w<=Br p.acts (i+1)):dO p r c w= .lit (.tuple #[.int .i64 (Bl p c+w),.int .i64 (Bl p c+w+r.flight),.int .i64 (i:Int),.int .i64 (Br p.acts (i+1)),dR (kI p c i)]):=by
 have e:=Zq (p:=p) (c:=c) h1 ω h3 (.inr h4)
 rw[dO,e,if_pos hi]
theorem Adz {p:Pr} {r:Rv} {c:Cs} {w:Int} (h1:c.act.toNat+1<=p.acts.length) (h3:∀q,c.act.toNat+1<=q->q<p.acts.length->Br p.acts (q+1)<Ic p r c w):dO p r c w= .lit (.tuple #[.int .i64 (Bl p c+w),.int .i64 (Bl p c+w+r.flight),.int .i64 (-1),.int .i64 (Br p.acts p.acts.length),.agg #[.int .i64 0,.int .i64 0,.int .i64 0]]):=by
 have e:=Zq (p:=p) (c:=c) h1 (Nat.le_refl _) h3 (.inl rfl)
 rw[dO,e,if_neg (Nat.lt_irrefl _)]
def rL (p:Pr) (r:Rv) (c:Cs) (w:Int):AV:=
 if Kx p c (Ic p r c w)<p.acts.length then .lit (.tuple #[.int .i64 (Kx p c (Ic p r c w):Int),dR (kI p c (Kx p c (Ic p r c w)))])
 else .lit (.tuple #[.int .i64 (-1),.agg #[.int .i64 0,.int .i64 0,.int .i64 0]])
theorem AbC {p:Pr} {r:Rv} {c:Cs} {w:Int} {i:Nat} (hi:i<p.acts.length) (h1:c.act.toNat+1<=i) (h3:∀q,c.act.toNat+1<=q->q<i->Br p.acts (q+1)<Ic p r c w) (h4:Ic p r c w<=Br p.acts (i+1)):rL p r c w= .lit (.tuple #[.int .i64 (i:Int),dR (kI p c i)]):=by
 have e:=Zq (p:=p) (c:=c) h1 ω h3 (.inr h4)
 rw[rL,e,if_pos hi]
theorem Ad0 {p:Pr} {r:Rv} {c:Cs} {w:Int} (h1:c.act.toNat+1<=p.acts.length) (h3:∀q,c.act.toNat+1<=q->q<p.acts.length->Br p.acts (q+1)<Ic p r c w):rL p r c w= .lit (.tuple #[.int .i64 (-1),.agg #[.int .i64 0,.int .i64 0,.int .i64 0]]):=by
 have e:=Zq (p:=p) (c:=c) h1 (Nat.le_refl _) h3 (.inl rfl)
 rw[rL,e,if_neg (Nat.lt_irrefl _)]
theorem Ow (p:Pr) (r:Rv) (c:Cs) (w:Int) (hp:Kd p) (hc:Fv p c) (hcs:Py c) (hr:Mw r) (hw:0<=w/\w<=3600000):AF Tryz.prog 39 [Ev p,Hd r,Ho c,.int w] (dO p r c w):=by
 have ho:=Km hc.1
 have hv1:=hc.2.1
 have hv2:=hc.2.2.1
 have hv3:=hc.2.2.2.1
 have hv4:=hc.2.2.2.2
 have hac:=ho.acts
 have hfl:=hr.1
 have he:=ho.ends (c.act.toNat+1) ω
 have hce:Bl p c=Br p.acts (c.act.toNat+1):=rfl
 have har:Ic p r c w=Bl p c+w+r.flight:=rfl
 refine Ch func39 rfl λB D0 hA0=>?_
 refine Ae 17 (Df (pR p c hp hcs hc) (Ae 10 (Dm (Bl p c+w) (Bl p c+w) (Ae 8 (Dm (Bl p c+w+r.flight) (Bl p c+w+r.flight) (Ae 8 (Dm (Bl p c+w-w) (Br p.acts (c.act.toNat+1)) (Ae 11 (Dm (c.act+1) ((c.act.toNat+1:Nat):Int) (Ae 4 (Mi [4,6,8,9,10,11,12,13] (p.acts.length-(c.act.toNat+1)) (λk=>∀q,c.act.toNat+1<=q->q<c.act.toNat+1+k->Br p.acts (q+1)<Ic p r c w) (λk=>⟨[(4,.ptr 0 0),(6,.ptr 2 0),(8,.int (Bl p c+w)),(9,.int (Bl p c+w+r.flight)),(10,.int (-1)),(11,.int (Br p.acts (c.act.toNat+1+k))),(12,.ptr 3 0),(13,.int ((c.act.toNat+1+k:Nat):Int))],[(0,.box 31 [Dp p.names,Fh p.homes,Ek p.acts]),(1,.box 25 [Ib r.homes,.int r.flight,Bq r.waits,Bq r.rises]),(2,.box 33 [.int c.craft,.int c.act]),(3,.box 36 [.int 0,.int 0,.int 0])],4,68⟩) (λq h1 h2=>absurd h2 ω) (λk hkn hFk J1 hJ1=>?_))))))))))))
 refine Ae 10 (Em 37 (((c.act.toNat+1+k:Nat):Int)<(p.acts.length:Int)) (λhx1 hx1d=>?_) (λhx1 hx1d=>?_))
 ·
  refine Ae 5 ?_
  have he2:=ho.ends (c.act.toNat+1+k) ω
  have hl:=getD_in hp.lens (c.act.toNat+1+k)
  have hmv:=ho.mv (c.act.toNat+1+k) ω
  refine Ae 6 (Gg (c.act.toNat+1+k) p.acts.length (Ae 2 (Nn (.int .i64 (IntKind.wrap .i64 (Br p.acts (c.act.toNat+1+k)+(p.acts.getD (c.act.toNat+1+k) Ac.none).len))) (.int .i64 (Br p.acts (c.act.toNat+1+(k+1)))) ?_ (congrArg (Value.int .i64) ((IntWalk.i64_in _ (by have he3:=ho.ends ((c.act.toNat+1+k)+1) ω;rw[Br] at he3;omega)).trans rfl)))))
  refine Ae 10 (Em 50 (Bl p c+w+r.flight<=Br p.acts (c.act.toNat+1+(k+1))) (λhx2 hx2d=>?_) (λhx2 hx2d=>?_))
  ·
   exact Ae 2 (He [(4,Cy (Ek p.acts) (c.act.toNat+1+k),.none),(9,Cy (Abv ((p.acts.getD (c.act.toNat+1+k) Ac.none).moves)) (c.craft).toNat,.none)] [8,9,10,11,12] ⟨Hs (c.act.toNat+1+k) p.acts.length,Aev c.craft (c.craft).toNat ((p.acts.getD (c.act.toNat+1+k) Ac.none).moves.length),trivial⟩ (Ae 8 (He [] [8,9,10,11,12] trivial (Ae 3 (Fz (.lit (.tuple #[.int .i64 (Bl p c+w),.int .i64 (Bl p c+w+r.flight),.int .i64 ((c.act.toNat+1+k:Nat):Int),.int .i64 (Br p.acts (c.act.toNat+1+(k+1))),.agg #[.int .i64 (((p.acts.getD (c.act.toNat+1+k) Ac.none).moves.getD ((c.craft).toNat) Mv.none).to.x),.int .i64 (((p.acts.getD (c.act.toNat+1+k) Ac.none).moves.getD ((c.craft).toNat) Mv.none).to.y),.int .i64 (((p.acts.getD (c.act.toNat+1+k) Ac.none).moves.getD ((c.craft).toNat) Mv.none).to.z)]])) (AbB (i:=c.act.toNat+1+k) ω ω hFk (by first|omega|(show _<=Br p.acts (c.act.toNat+1+(k+1));omega))).symm)))))
  ·
   exact Ae 6 (Dm (((c.act.toNat+1+k:Nat):Int)+1) ((c.act.toNat+1+k+1:Nat):Int) (Ae 2 (Ja [4,6,8,9,10,11,12,13] (hJ1 ω (λq h1 h2=>(Nat.lt_or_ge q (c.act.toNat+1+k)).elim (λg=>hFk q h1 g) λg=>by have e:q=c.act.toNat+1+k:=(ω);subst e;first|omega|(show Br p.acts (c.act.toNat+1+(k+1))<_;omega))))))
 ·
  exact Ae 7 (He [] [8,9,10,11,12] trivial (Ae 3 (Fz (.lit (.tuple #[.int .i64 (Bl p c+w),.int .i64 (Bl p c+w+r.flight),.int .i64 (-1),.int .i64 (Br p.acts (c.act.toNat+1+k)),.agg #[.int .i64 0,.int .i64 0,.int .i64 0]])) ((Adz ω (λq h1 h2=>hFk q h1 ω)).trans (congrArg (λq=>AV.lit (.tuple #[.int .i64 (Bl p c+w),.int .i64 (Bl p c+w+r.flight),.int .i64 (-1),.int .i64 (Br p.acts q),.agg #[.int .i64 0,.int .i64 0,.int .i64 0]])) (show p.acts.length=c.act.toNat+1+k by omega))).symm)))
theorem Xs (p:Pr) (r:Rv) (c:Cs) (w:Int) (hp:Kd p) (hc:Fv p c) (hr:Mw r) (hw:0<=w/\w<=3600000):AF Tryz.prog 17 [Ev p,Hd r,Ho c,.int w] (rL p r c w):=by
 have ho:=Km hc.1
 have hv1:=hc.2.1
 have hv2:=hc.2.2.1
 have hv3:=hc.2.2.2.1
 have hv4:=hc.2.2.2.2
 have hac:=ho.acts
 have hfl:=hr.1
 have he:=ho.ends (c.act.toNat+1) ω
 have hce:Bl p c=Br p.acts (c.act.toNat+1):=rfl
 have har:Ic p r c w=Bl p c+w+r.flight:=rfl
 refine Ch func17 rfl λB D0 hA0=>?_
 refine Ae 14 (Dm (c.act+1) ((c.act.toNat+1:Nat):Int) (Ae 4 (Mi [3,4,5,6,9,10] (p.acts.length-(c.act.toNat+1)) (λk=>∀q,c.act.toNat+1<=q->q<c.act.toNat+1+k->Br p.acts (q+1)<Ic p r c w) (λk=>⟨[(3,.int w),(4,.ptr 0 0),(5,.ptr 1 0),(6,.ptr 2 0),(9,.ptr 3 0),(10,.int ((c.act.toNat+1+k:Nat):Int))],[(0,.box 31 [Dp p.names,Fh p.homes,Ek p.acts]),(1,.box 25 [Ib r.homes,.int r.flight,Bq r.waits,Bq r.rises]),(2,.box 33 [.int c.craft,.int c.act]),(3,.box 36 [.int 0,.int 0,.int 0])],4,47⟩) (λq h1 h2=>absurd h2 ω) (λk hkn hFk J1 hJ1=>?_))))
 refine Ae 10 (Em 18 (((c.act.toNat+1+k:Nat):Int)<(p.acts.length:Int)) (λhx1 hx1d=>?_) (λhx1 hx1d=>?_))
 ·
  refine Ae 5 ?_
  have he2:=ho.ends ((c.act.toNat+1+k)+1) ω
  have hmv:=ho.mv (c.act.toNat+1+k) ω
  refine Ae 1 (He [(2,_,.none),(6,_,.none),(8,.int (Bl p c+w),.none),(11,.int (Bl p c+w+r.flight),.none)] [3,4,5,6,9,10,33] ⟨Eg (lA p hp ho (c.act.toNat+1+k) ω),Eg (by have:=lA p hp ho c.act.toNat ω;rwa [show (c.act.toNat:Int)=c.act by omega] at this),Bb (Bz (v:= .int .i64 (IntKind.wrap .i64 (Bl p c+w))) (v':= .int .i64 (Bl p c+w)) _ κ rfl κ (λw=>by kernel_rfl) (congrArg (Value.int .i64) ((IntWalk.i64_in _ ω).trans ω))),Bb (Bz (v:= .int .i64 (IntKind.wrap .i64 (Bl p c+w+r.flight))) (v':= .int .i64 (Bl p c+w+r.flight)) _ κ rfl κ (λw=>by kernel_rfl) (congrArg (Value.int .i64) ((IntWalk.i64_in _ ω).trans ω))),trivial⟩ (Ae 1 (Em 33 (Bl p c+w+r.flight<=Br p.acts ((c.act.toNat+1+k)+1)) (λhx2 hx2d=>?_) (λhx2 hx2d=>?_))))
  ·
   exact Ae 2 (He [(4,Cy (Ek p.acts) (c.act.toNat+1+k),.none),(9,Cy (Abv ((p.acts.getD (c.act.toNat+1+k) Ac.none).moves)) (c.craft).toNat,.none)] [8,9] ⟨Hs (c.act.toNat+1+k) p.acts.length,Aev c.craft (c.craft).toNat ((p.acts.getD (c.act.toNat+1+k) Ac.none).moves.length),trivial⟩ (Ae 7 (Fz (.lit (.tuple #[.int .i64 ((c.act.toNat+1+k:Nat):Int),.agg #[.int .i64 (((p.acts.getD (c.act.toNat+1+k) Ac.none).moves.getD ((c.craft).toNat) Mv.none).to.x),.int .i64 (((p.acts.getD (c.act.toNat+1+k) Ac.none).moves.getD ((c.craft).toNat) Mv.none).to.y),.int .i64 (((p.acts.getD (c.act.toNat+1+k) Ac.none).moves.getD ((c.craft).toNat) Mv.none).to.z)]])) (AbC (i:=c.act.toNat+1+k) ω ω hFk (by first|omega|(show _<=Br p.acts (c.act.toNat+1+(k+1));omega))).symm)))
  ·
   exact Ae 6 (Dm (((c.act.toNat+1+k:Nat):Int)+1) ((c.act.toNat+1+k+1:Nat):Int) (Ae 2 (Ja [3,4,5,6,9,10] (hJ1 ω (λq h1 h2=>(Nat.lt_or_ge q (c.act.toNat+1+k)).elim (λg=>hFk q h1 g) λg=>by have e:q=c.act.toNat+1+k:=(ω);subst e;first|omega|(show Br p.acts (c.act.toNat+1+(k+1))<_;omega))))))
 ·
  exact Ae 14 (Fz (.lit (.tuple #[.int .i64 (-1),.agg #[.int .i64 0,.int .i64 0,.int .i64 0]])) (Ad0 ω (λq h1 h2=>hFk q h1 ω)).symm)
abbrev Kt (r:Rv):AV:= .elt 4 λxi=>[Ib r.homes,.int r.flight,Bq r.waits,Bq r.rises].getD (0+xi) .top
abbrev My (v:V3):AV:= .elt 3 λxi=>[AV.int v.x,.int v.y,.int v.z].getD (0+xi) .top
abbrev iK (r:Rv) (v:V3):AV:= .elt 1 λxi=>[AV.fn 40 [Kt r,My v]].getD (0+xi) .top
def Kj (a b:Int):Int:=if a<b then -1 else if b<a then 1 else 0
def orI (a b:Int):Int:=if a=0 then b else a
theorem fR {d:Int} (h: -2097152<=d/\d<=2097152):0<=d*d/\d*d<=4398046511104:=by
 rcases Int.le_total 0 d with g|g
 have h1:=Int.mul_nonneg g g
 have h2:=Int.mul_le_mul h.2 h.2 g δ
 omega
 have e:d*d= -d* -d:=(Int.neg_mul_neg d d).symm
 have h1:=Int.mul_nonneg (Int.neg_nonneg.2 g) (Int.neg_nonneg.2 g)
 have h2:=Int.mul_le_mul (show -d<=2097152 by omega) (show -d<=2097152 by omega) (Int.neg_nonneg.2 g) δ
 omega
theorem Zh (r:Rv) (v:V3) (a b:Nat):decide (orI (Kj (Mk r v a) (Mk r v b)) (Kj (a:Int) (b:Int))<0)=Wl r v a b:=by
 unfold orI Kj Wl
 generalize Mk r v a=x
 generalize Mk r v b=y
 by_cases h1:x<y
 simp[h1]
 by_cases h2:y<x
 simp[h1,h2]
 intro h;omega
 have e:x=y:=by omega
 by_cases h3:a<b
 simp[e,h3]
 by_cases h4:b<a
 simp[e,h3,h4]
 simp[e,h3,h4]
theorem lC (a:Int):AF Tryz.prog 78 [.int a] (.bool false):=by
 refine Ch func78 rfl λB D0 hA0=>?_
 exact Ae 14 (Fz (.bool (!decide (a=a))) (congrArg AV.bool (by simp)))
theorem Zu (a b:Int):AF Tryz.prog 44 [.int a,.int b] (.int (Kj a b)):=by
 refine Ch func44 rfl λB D0 hA0=>?_
 refine Ae 8 (Df (lC a) (Ae 6 (Df (lC b) (Ae 29 (Em 16 (a<b) (λhx1 hx1d=>?_) (λhx1 hx1d=>?_))))))
 ·
  exact Ae 8 (Fz (.int (-1)) (congrArg AV.int (by unfold Kj;(repeat' split)<;>omega)))
 ·
  refine Ae 11 (Em 19 (b<a) (λhx2 hx2d=>?_) (λhx2 hx2d=>?_))
  ·
   exact Ae 8 (Fz (.int 1) (congrArg AV.int (by unfold Kj;(repeat' split)<;>omega)))
  ·
   exact Ae 9 (Fz (.int 0) (congrArg AV.int (by unfold Kj;(repeat' split)<;>omega)))
theorem Afc (a b:Int):AF Tryz.prog 43 [.sl 1 2 λxi=>[AV.int a,.int b].getD xi .top] (.int (orI a b)):=by
 refine Ch func43 rfl λB D0 hA0=>?_
 refine Ae 19 (zT 2 (Ae 13 (Gg 0 2 (Ae 11 (AeQ 14 (a=0) (λhx1 hx1d=>?_) (λhx1 hx1d=>?_))))))
 ·
  refine Ae 5 (Nn (.int .i64 1) (.int .i64 1) (Ae 16 (Gg 1 2 (Ae 11 (AeQ 14 (b=0) (λhx2 hx2d=>?_) (λhx2 hx2d=>?_))))))
  ·
   exact Ae 5 (Nn (.int .i64 2) (.int .i64 2) (Ae 22 (Fz (.int 0) (congrArg AV.int (by unfold orI;split<;>omega)))))
  ·
   exact Ae 13 (Fz (.int b) (congrArg AV.int (by unfold orI;split<;>omega)))
 ·
  exact Ae 13 (Fz (.int a) (congrArg AV.int (by unfold orI;split<;>omega)))
theorem Aaa (r:Rv) (v:V3) (i:Nat) (hr:Mw r) (hi:i<r.homes.length) (hv:De 1048576 [v.x,v.y,v.z]=true):AF Tryz.prog 40 [.int (i:Int),Kt r,My v] (.int (Mk r v i)):=by
 have hb:=tX (hr.2.1 i hi).1
 have hw:=tX hv
 have hn:=hr.1
 refine Ch func40 rfl λB D0 hA0=>?_
 refine Ae 6 (He [(3,Cy (Ib r.homes) i,.none),(8,.int ((r.homes.getD i V3.zero).x-v.x),.none),(12,Cy (Ib r.homes) i,.none),(17,.int ((r.homes.getD i V3.zero).y-v.y),.none),(21,Cy (Ib r.homes) i,.none),(26,.int ((r.homes.getD i V3.zero).z-v.z),.none)] [5] ⟨Hs i r.homes.length,Bb (Bz (v:= .int .i64 (IntKind.wrap .i64 ((r.homes.getD i V3.zero).x-v.x))) (v':= .int .i64 ((r.homes.getD i V3.zero).x-v.x)) _ κ rfl κ (λw=>by kernel_rfl) (congrArg (Value.int .i64) ((IntWalk.i64_in _ ω).trans ω))),Hs i r.homes.length,Bb (Bz (v:= .int .i64 (IntKind.wrap .i64 ((r.homes.getD i V3.zero).y-v.y))) (v':= .int .i64 ((r.homes.getD i V3.zero).y-v.y)) _ κ rfl κ (λw=>by kernel_rfl) (congrArg (Value.int .i64) ((IntWalk.i64_in _ ω).trans ω))),Hs i r.homes.length,Bb (Bz (v:= .int .i64 (IntKind.wrap .i64 ((r.homes.getD i V3.zero).z-v.z))) (v':= .int .i64 ((r.homes.getD i V3.zero).z-v.z)) _ κ rfl κ (λw=>by kernel_rfl) (congrArg (Value.int .i64) ((IntWalk.i64_in _ ω).trans ω))),trivial⟩ (Ae 1 ?_))
 have hqx:=fR (d:=(r.homes.getD i V3.zero).x-v.x) ω
 have hqy:=fR (d:=(r.homes.getD i V3.zero).y-v.y) ω
 have hqz:=fR (d:=(r.homes.getD i V3.zero).z-v.z) ω
 exact Ae 6 (Dm (((r.homes.getD i V3.zero).x-v.x)*((r.homes.getD i V3.zero).x-v.x)) (((r.homes.getD i V3.zero).x-v.x)*((r.homes.getD i V3.zero).x-v.x)) (Ae 4 (Dm (((r.homes.getD i V3.zero).y-v.y)*((r.homes.getD i V3.zero).y-v.y)) (((r.homes.getD i V3.zero).y-v.y)*((r.homes.getD i V3.zero).y-v.y)) (Dm (((r.homes.getD i V3.zero).x-v.x)*((r.homes.getD i V3.zero).x-v.x)+((r.homes.getD i V3.zero).y-v.y)*((r.homes.getD i V3.zero).y-v.y)) (((r.homes.getD i V3.zero).x-v.x)*((r.homes.getD i V3.zero).x-v.x)+((r.homes.getD i V3.zero).y-v.y)*((r.homes.getD i V3.zero).y-v.y)) (Ae 4 (Dm (((r.homes.getD i V3.zero).z-v.z)*((r.homes.getD i V3.zero).z-v.z)) (((r.homes.getD i V3.zero).z-v.z)*((r.homes.getD i V3.zero).z-v.z)) (Dm (((r.homes.getD i V3.zero).x-v.x)*((r.homes.getD i V3.zero).x-v.x)+((r.homes.getD i V3.zero).y-v.y)*((r.homes.getD i V3.zero).y-v.y)+((r.homes.getD i V3.zero).z-v.z)*((r.homes.getD i V3.zero).z-v.z)) (((r.homes.getD i V3.zero).x-v.x)*((r.homes.getD i V3.zero).x-v.x)+((r.homes.getD i V3.zero).y-v.y)*((r.homes.getD i V3.zero).y-v.y)+((r.homes.getD i V3.zero).z-v.z)*((r.homes.getD i V3.zero).z-v.z)) (Ae 4 (Gt)))))))))
theorem sM (r:Rv) (v:V3) (a b:Nat) (hr:Mw r) (ha:a<r.homes.length) (hb:b<r.homes.length) (hv:De 1048576 [v.x,v.y,v.z]=true):AF Tryz.prog 42 [.int (a:Int),.int (b:Int),iK r v] (.int (orI (Kj (Mk r v a) (Mk r v b)) (Kj (a:Int) (b:Int)))):=by
 refine Ch func42 rfl λB D0 hA0=>?_
 exact Ae 6 (He [(2,_,.none),(5,_,.none),(6,_,.none),(9,_,.none),(10,.osl 0 1 2,(.new 0 (.vec 3 1 2 (λxi=>[.int (Kj (Mk r v a) (Mk r v b)),.int (Kj (a:Int) (b:Int))].getD xi .top)))),(11,.int (orI (Kj (Mk r v a) (Mk r v b)) (Kj (a:Int) (b:Int))),(.read 0))] [5] ⟨qE (Aaa r v a hr ha hv),qE (Aaa r v b hr hb hv),Eg (Zu (Mk r v a) (Mk r v b)),Eg (Zu (a:Int) (b:Int)),Bb (Ak 23 2 #[(0,(.tmp 12)),(1,(.tmp 15))] κ underlying23 1 sizeOf3 _ zeroValue3 κ β β β 0 [.int (Kj (Mk r v a) (Mk r v b)),.int (Kj (a:Int) (b:Int))] κ (λxi=>[.int (Kj (Mk r v a) (Mk r v b)),.int (Kj (a:Int) (b:Int))].getD xi .top) κ),Bb (fH 43 #[.tmp 16] #[23] κ (λ_ _=>by kernel_rfl) 0 (.vec 3 1 2 (λxi=>[.int (Kj (Mk r v a) (Mk r v b)),.int (Kj (a:Int) (b:Int))].getD xi .top)) κ (λ_ _ _ _ h=>by cases h;exact(λi hi j hj=>by obtain rfl:j=0:=(ω);exact match i,hi with|0,_=>rfl|1,_=>rfl|i+2,h=>absurd h ω)) [.osl 0 1 2] κ [.sl 1 2 (λxi=>[.int (Kj (Mk r v a) (Mk r v b)),.int (Kj (a:Int) (b:Int))].getD xi .top)] κ (.int .i64 (orI (Kj (Mk r v a) (Mk r v b)) (Kj (a:Int) (b:Int)))) (Afc (Kj (Mk r v a) (Mk r v b)) (Kj (a:Int) (b:Int)))),trivial⟩ (Ae 2 (Gt)))
theorem Jq (v:V3) (z:Int) (hv:De 1048576 [v.x,v.y,v.z]=true) (hz:0<=z/\z<=1048576):AF Tryz.prog 45 [Gh v,.int z] (.bool (Hk v z)):=by
 have hb:=tX hv
 refine Ch func45 rfl λB D0 hA0=>?_
 exact Ae 11 (Dm (v.z+z) (v.z+z) (Ae 7 (Df (Fl ⟨v.x,v.y,v.z+z⟩) (Ae 4 (Gt)))))
theorem eZ {lt:Nat->Nat->Bool} {l:List Nat} {j:Nat} (h0:0<j) (h:lt (l.getD j 0) (l.getD (j-1) 0)=true):Pb lt l j=Pb lt (Ni l (j-1)) (j-1):=by
 obtain⟨j',rfl⟩:∃j',j=j'+1:=⟨j-1,ω⟩
 rw[Pb]
 simp only[Nat.add_sub_cancel] at h ⊢
 rw[if_pos h]
theorem fA {lt:Nat->Nat->Bool} {l:List Nat} {j:Nat} (h0:0<j) (h:lt (l.getD j 0) (l.getD (j-1) 0)=false):Pb lt l j=l:=by
 obtain⟨j',rfl⟩:∃j',j=j'+1:=⟨j-1,ω⟩
 rw[Pb]
 simp only[Nat.add_sub_cancel] at h ⊢
 rw[if_neg (by rw[h];exact Bool.false_ne_true)]
theorem fB {lt:Nat->Nat->Bool} {l:List Nat} {j:Nat} (h0:¬0<j):Pb lt l j=l:=by
 obtain rfl:j=0:=by omega
 rfl
theorem vB (L:List Nat) (j x:Nat) (h0:0<j) (h:j<L.length):(if x=j-1 then AV.int ((L.getD j 0:Nat):Int) else if x=j then AV.int ((L.getD (j-1) 0:Nat):Int) else AV.int ((L.getD x 0:Nat):Int))=AV.int (((Ni L (j-1)).getD x 0:Nat):Int):=by
 rw[Lm _ _ _ ω,show j-1+1=j by omega]
 by_cases e1:x=j-1
 rw[if_pos e1,if_pos e1]
 rw[if_neg e1,if_neg e1]
 by_cases e2:x=j
 rw[if_pos e2,if_pos e2]
 rw[if_neg e2,if_neg e2]
theorem fS {L:List Nat} {j n:Nat} (h:j+1<L.length) (hm:∀x,x<L.length->L.getD x 0<n):∀x,x<L.length->(Ni L j).getD x 0<n:=λx hx=>by
 rw[Lm _ _ _ h]
 split
 exact hm _ h
 split
 exact hm _ ω
 exact hm x hx
theorem Zm {p:Pr} {r:Rv} {c:Cs} {k:Nat} (hc:Fv p c) (h:Xk p r c k=true):De 1048576 [(Aj p r c k).x,(Aj p r c k).y,(Aj p r c k).z]=true:=by
 have:=(Km hc.1).to (j:=Kx p c (Ic p r c (r.waits.getD k 0))) (i:=c.craft.toNat) (of_decide_eq_true h) (by have:=hc.2.1;have:=hc.2.2.1;omega)
 exact this
theorem Tm {p:Pr} {r:Rv} {c:Cs} {k:Nat} (hp:Kd p) (hc:Fv p c) (hcs:Py c) (hr:Mw r) (hk:k<r.waits.length) (h:Xk p r c k=true):AF Tryz.prog 39 [Ev p,Hd r,Ho c,.int (r.waits.getD k 0)] (.lit (.tuple #[.int .i64 (Bl p c+r.waits.getD k 0),.int .i64 (Bl p c+r.waits.getD k 0+r.flight),.int .i64 (Kx p c (Ic p r c (r.waits.getD k 0)):Int),.int .i64 (Br p.acts (Kx p c (Ic p r c (r.waits.getD k 0))+1)),dR (Aj p r c k)])):=by
 have hw:=hr.2.2.1.2.2 k hk
 have:=Ow p r c (r.waits.getD k 0) hp hc hcs hr ⟨hw.1,hw.2.1⟩
 unfold dO at this
 rwa [if_pos (of_decide_eq_true h)] at this
theorem Us {p:Pr} {r:Rv} {c:Cs} {k:Nat} (hp:Kd p) (hc:Fv p c) (hcs:Py c) (hr:Mw r) (hk:k<r.waits.length) (h:Xk p r c k=false):AF Tryz.prog 39 [Ev p,Hd r,Ho c,.int (r.waits.getD k 0)] (.lit (.tuple #[.int .i64 (Bl p c+r.waits.getD k 0),.int .i64 (Bl p c+r.waits.getD k 0+r.flight),.int .i64 (-1),.int .i64 (Br p.acts p.acts.length),.agg #[.int .i64 0,.int .i64 0,.int .i64 0]])):=by
 have hw:=hr.2.2.1.2.2 k hk
 have:=Ow p r c (r.waits.getD k 0) hp hc hcs hr ⟨hw.1,hw.2.1⟩
 unfold dO at this
 rwa [if_neg (of_decide_eq_false h)] at this
theorem Jl {l r:List Rl} (i:Nat):(l++r).getD i Rl.none=if i<l.length then l.getD i Rl.none else r.getD (i-l.length) Rl.none:=by
 simp only[List.getD_eq_getElem?_getD,List.getElem?_append]
 split<;>rfl
def uS (l:List Rl):AV:=if l.length=0 then .lit (.tuple #[.slice none 0 0,.int .i64 0]) else .tup [Qu l,.int 0]
def Nz (p:Pr) (r:Rv) (c:Cs):Prop:=Fv p c/\Mw r
theorem Aah (n:Nat) (h:n<=1000000):AF Tryz.prog 77 [.lit (.int .u64 (n:Int))] (.int (Lib.bitLen n:Int)):=Ix (vs:=[_]) λw=>by
 have:=Tryz.bits_Len (n:Int) w ω ω
 refine this.mono ?_
 rintro e w' ⟨rfl,rfl⟩
 exact⟨by simp,Below.refl _ _⟩
theorem Za (p:Pr) (r:Rv) (c:Cs) (hp:Kd p) (hr:Wr r) (hcs:Py c):AF Tryz.prog 37 [Ev p,Hd r,Ho c] (.bool (bP (Nz p r c))):=by
 refine Ch func37 rfl λB D0 hA0=>?_
 refine Ae 12 (Df (Ut p c hp hcs) (Ae 1 (kK 10 (bP (Fv p c)) (λhx1=>?_) (λhx1=>?_))))
 ·
  exact Ae 1 (Df (dC r hr) (Ae 5 (Fz (.bool (bP (Mw r))) (congrArg AV.bool (tC ⟨λg=>⟨Gi hx1,g⟩,λg=>g.2⟩)))))
 ·
  exact Ae 7 (Fz (.bool false) (congrArg AV.bool (As λg=>Tz hx1 g.1).symm))
theorem Tl (p:Pr) (r:Rv) (c:Cs) (hp:Kd p) (hr:Wr r) (hcs:Py c) (h:¬Nz p r c):AF Tryz.prog 18 [Ev p,Hd r,Ho c] (.lit (.tuple #[.slice none 0 0,.int .i64 2])):=by
 refine Ch func18 rfl λB D0 hA0=>?_
 exact Ae 15 (Df (Za p r c hp hr hcs) (Ae 3 (Kf 27 (!bP (Nz p r c)) true (by rw[(As h)];rfl) (Ae 9 (Gt)))))
theorem fQ (r:Rv) (v:V3) {i:Nat} (h:i<r.homes.length):∀x,x<r.homes.length->(Ko (Wl r v) (List.range r.homes.length) i).getD x 0<r.homes.length:=λx hx=>by
 have:=cH (Wl r v) (n:=r.homes.length) (List.range r.homes.length) (λx hx=>by
  rw[List.length_range] at hx
  rw[Se hx];exact hx) i (by rw[List.length_range];exact h) x (by rw[List.length_range];exact hx)
 exact this
theorem lF (p:Pr) (r:Rv) (c:Cs) (hp:Kd p) (hr:Wr r) (hcs:Py c) (hg:Nz p r c):AF Tryz.prog 18 [Ev p,Hd r,Ho c] (uS (Kq p r c)):=by
 have hi1:=hr.n
 have hn1:=hg.2.1.1
 have hn2:=hg.2.1.2.1
 have hw1:=hg.2.2.2.1.1
 have hw2:=hg.2.2.2.1.2.1
 have hs1:=hg.2.2.2.2.1
 have hs2:=hg.2.2.2.2.2.1
 refine Ch func18 rfl λB D0 hA0=>?_
 refine Ae 15 (Df (Za p r c hp hr hcs) (Ae 3 (Kf 27 (!bP (Nz p r c)) false (by rw[(Ee hg)];rfl) (Ae 3 (Yv 0 (Yv 1 (Yv 2 (Ae 15 (Wn [3,4,5,8,29,30,31] (λm s=>∃k n,k<=r.waits.length/\m=r.waits.length-k/\(n=(Gx p r c k).length/\n<=k*128)/\(((n=0)/\s=⟨[(3,.elt 3 (λxi=>[Dp p.names,Fh p.homes,Ek p.acts].getD (0+xi) .top)),(4,Kt r),(5,.elt 2 (λxi=>[.int c.craft,.int c.act].getD (0+xi) .top)),(8,.lit (.slice none 0 0)),(29,Bq r.waits),(30,.int (r.waits.length:Int)),(31,.int (k:Int))],[],3,99⟩)\/((0<n)/\s=⟨[(3,.elt 3 (λxi=>[Dp p.names,Fh p.homes,Ek p.acts].getD (0+xi) .top)),(4,Kt r),(5,.elt 2 (λxi=>[.int c.craft,.int c.act].getD (0+xi) .top)),(8,.osl 50 3 n),(29,Bq r.waits),(30,.int (r.waits.length:Int)),(31,.int (k:Int))],[(50,.vec 52 3 n (λxi=>Bc ((Gx p r c k).getD xi Rl.none)))],51,99⟩))) r.waits.length ⟨0,0,Nat.zero_le _,rfl,⟨rfl,Nat.zero_le _⟩,(.inl ⟨rfl,κ⟩)⟩ ?_)))))))))
 rintro _ _ ⟨k,n,hkn,rfl,hFk,(⟨hk0,rfl⟩|⟨hk0,rfl⟩)⟩ J1 hJ1
 ·
  refine Ae 6 (Em 32 ((k:Int)<(r.waits.length:Int)) (λhx1 hx1d=>?_) (λhx1 hx1d=>?_))
  ·
   refine Ae 7 (Gg k r.waits.length (Ae 10 ?_))
   refine Ea (Xk p r c k) (λhx2=>?_) (λhx2=>?_)
   ·
    refine Df (Tm hp hg.1 hcs hg.2 ω hx2) (Ae 19 (Kf 47 (decide ((((Kx p c (Ic p r c (r.waits.getD k 0))):Nat):Int)<0)) false (decide_eq_false ω) (Ae 5 ?_)))
    have hV:=Zm hg.1 hx2
    refine Yv 3 (Ae 7 (Yv 4 (Ae 15 (Wn [3,4,5,8,10,15,16,17,29,30,31,51,52] (λm s=>∃a,a<=r.homes.length/\m=r.homes.length-a/\True/\((a=0/\s=⟨[(3,.elt 3 (λxi=>[Dp p.names,Fh p.homes,Ek p.acts].getD (0+xi) .top)),(4,Kt r),(5,.elt 2 (λxi=>[.int c.craft,.int c.act].getD (0+xi) .top)),(8,.lit (.slice none 0 0)),(10,.int ((r.waits).getD k 0)),(15,My (Aj p r c k)),(16,iK r (Aj p r c k)),(17,.lit (.slice none 0 0)),(29,Bq r.waits),(30,.int (r.waits.length:Int)),(31,.int (k:Int)),(51,.int (r.homes.length:Int)),(52,.int ((0:Nat):Int))],[],5,99⟩)\/(0<a/\s=⟨[(3,.elt 3 (λxi=>[Dp p.names,Fh p.homes,Ek p.acts].getD (0+xi) .top)),(4,Kt r),(5,.elt 2 (λxi=>[.int c.craft,.int c.act].getD (0+xi) .top)),(8,.lit (.slice none 0 0)),(10,.int ((r.waits).getD k 0)),(15,My (Aj p r c k)),(16,iK r (Aj p r c k)),(17,.osl 60 1 a),(29,Bq r.waits),(30,.int (r.waits.length:Int)),(31,.int (k:Int)),(51,.int (r.homes.length:Int)),(52,.int (a:Int))],[(60,.vec 3 1 a (λxi=>AV.int (xi:Int)))],61,99⟩))) r.homes.length ⟨0,Nat.zero_le _,rfl,trivial,.inl ⟨rfl,κ⟩⟩ ?_))))
    rintro _ _ ⟨a,han,rfl,hFa,(⟨ha0,rfl⟩|⟨ha0,rfl⟩)⟩ J2 hJ2
    ·
     subst ha0
     refine Ae 6 (Em 53 (((0:Nat):Int)<(r.homes.length:Int)) (λhx3 hx3d=>?_) (λhx3 hx3d=>?_))
     ·
      exact Ae 14 (Bx (.osl 5 1 1) (.new 5 (.vec 3 1 1 (λ_=> .int ((0:Nat):Int)))) (Ak 23 1 #[(0,(.tmp 56))] κ underlying23 1 sizeOf3 _ zeroValue3 κ β β β 5 [.int ((0:Nat):Int)] κ (λ_=> .int ((0:Nat):Int)) κ) (Bx (.osl 6 1 1) (.newr 5 6 (.vec 3 1 1 (λxi=>AV.int (xi:Int)))) (Cj (.tmp 55) (.tmp 57) 23 κ underlying23 1 8 (.int .i64 0) κ κ δ 1 ω (λ_=> .int ((0:Nat):Int)) (λxi=>AV.int (xi:Int)) 6 (λi hi=>by(obtain rfl:i=0:=(ω));rfl) (λi hi j hj=>by obtain rfl:j=0:=(ω);rfl) (by unfold maxLen;omega) ω κ 5 3 κ κ) (Ae 5 (Dm (((0:Nat):Int)+1) ((0+1:Nat):Int) (Ae 2 (Fu [3,4,5,8,10,15,16,17,29,30,31,51,52] [(6,60)] 61 0 hA0 [(3,1,1,(λ_=> .int ((0:Nat):Int))),(3,1,1,(λxi=>AV.int (xi:Int)))] ⟨(Fp λ_ _=>rfl),(Fp λ_ _=>rfl),trivial⟩ (hJ2 _ _ (by omega:r.homes.length-(0+1)<r.homes.length-0) ⟨0+1,ω,rfl,trivial,.inr ⟨Nat.succ_pos _,rfl⟩⟩)))))))
     ·
      refine Ae 6 ?_
      exfalso;omega
    ·
     refine Ae 6 (Em 53 ((a:Int)<(r.homes.length:Int)) (λhx4 hx4d=>?_) (λhx4 hx4d=>?_))
     ·
      exact Ae 14 (Bx (.osl 61 1 1) (.new 61 (.vec 3 1 1 (λ_=> .int (a:Int)))) (Ak 23 1 #[(0,(.tmp 56))] κ underlying23 1 sizeOf3 _ zeroValue3 κ β β β 61 [.int (a:Int)] κ (λ_=> .int (a:Int)) κ) (Bx (.osl 62 1 (a+1)) (.grow2 60 61 62 (.vec 3 1 (a+1) (λxi=>AV.int (xi:Int)))) (Ck (.tmp 55) (.tmp 57) 23 κ underlying23 1 8 (.int .i64 0) κ κ δ a 1 ω (λxi=>AV.int (xi:Int)) (λ_=> .int (a:Int)) (λxi=>AV.int (xi:Int)) 62 ω (by unfold maxLen;omega) (λi hi=>rfl) (λi hi=>by(obtain rfl:i=0:=(ω));rfl) (λi hi j hj=>by obtain rfl:j=0:=(ω);rfl) 60 κ κ 61 3 κ κ) (Ae 5 (Dm ((a:Int)+1) ((a+1:Nat):Int) (Ae 2 (Fu [3,4,5,8,10,15,16,17,29,30,31,51,52] [(62,60)] 61 0 hA0 [(3,1,1,(λ_=> .int (a:Int))),(3,1,a+1,(λxi=>AV.int (xi:Int)))] ⟨(Fp λ_ _=>rfl),(Fp λ_ _=>rfl),trivial⟩ (hJ2 _ _ (by omega:r.homes.length-(a+1)<r.homes.length-a) ⟨a+1,ω,rfl,trivial,.inr ⟨Nat.succ_pos _,rfl⟩⟩)))))))
     ·
      refine Ae 6 ?_
      have hae:a=r.homes.length:=by omega
      subst hae
      refine Ae 4 (Wi 61 func41 (λ_ hD5=>?_))
      refine Ae 11 (Nn (.int .u64 (IntKind.wrap .u64 (r.homes.length:Int))) (.int .u64 (r.homes.length:Int)) ?_ (congrArg (Value.int .u64) (IntWalk.u64_in _ ω)))
      refine Df (Aah _ ω) (Ae 1 (Wi 61 func76 (λ_ hD6=>?_)))
      refine Ae 11 (zT 1 (Ae 5 (Dm ((r.homes.length:Int)-0) ((r.homes.length-0:Nat):Int) (Ae 8 (Kf 25 (decide (((r.homes.length-0:Nat):Int)<=12)) true (decide_eq_true ω) (Ae 9 (Wi 61 func104 (λ_ hD7=>?_))))))))
      refine Ae 3 (Nn (.int .i64 1) (.int .i64 1) (Ae 4 (Mr 60 3 1 r.homes.length (λxi=>AV.int (xi:Int)) (λxi=>AV.int (((Ko (Wl r (Aj p r c k)) (List.range r.homes.length) 0).getD xi 0:Nat):Int)) (λx9 hx9=>by show AV.int _=AV.int _;rw[Ko,Se hx9]) (Mi [0,1,2,3,8] (r.homes.length-1) (λi=>True) (λi=>⟨[(0,.osl 60 1 r.homes.length),(1,.int 0),(2,.int (r.homes.length:Int)),(3,.fn 42 [iK r (Aj p r c k)]),(8,.int ((i+1:Nat):Int))],[(60,.vec 3 1 r.homes.length (λxi=>AV.int (((Ko (Wl r (Aj p r c k)) (List.range r.homes.length) i).getD xi 0:Nat):Int)))],61,53⟩) trivial (λi hin hFi J3 hJ3=>?_)))))
      refine Ae 8 (Em 14 (((i+1:Nat):Int)<(r.homes.length:Int)) (λhx8 hx8d=>?_) (λhx8 hx8d=>?_))
      ·
       refine Ae 12 (Wn [0,1,2,3,8,9] (λm s=>∃j L,m=j+1/\(Pb (Wl r (Aj p r c k)) L j=Ko (Wl r (Aj p r c k)) (List.range r.homes.length) (i+1)/\j<=i+1/\L.length=r.homes.length/\(∀x,x<r.homes.length->L.getD x 0<r.homes.length))/\s=⟨[(0,.osl 60 1 r.homes.length),(1,.int 0),(2,.int (r.homes.length:Int)),(3,.fn 42 [iK r (Aj p r c k)]),(8,.int ((i+1:Nat):Int)),(9,.int (j:Int))],[(60,.vec 3 1 r.homes.length (λxi=>AV.int (((L).getD xi 0:Nat):Int)))],61,53⟩) ((i+1)+1) ⟨i+1,(Ko (Wl r (Aj p r c k)) (List.range r.homes.length) i),rfl,⟨rfl,Nat.le_refl _,by rw[Ll,List.length_range],fQ r (Aj p r c k) ω⟩,κ⟩ ?_)
       rintro _ _ ⟨j,L,rfl,hF,rfl⟩ J4 hJ4
       obtain⟨hF1,hF2,hF3,hF4⟩:=hF
       refine Ae 2 (zK ((0:Int)<(j:Int)) (λhx9 hx9d=>?_) (λhx9 hx9d=>?_))
       ·
        refine He [(2,.bool true,.none),(7,Cy (.osl 60 1 r.homes.length) j,.none),(8,.int (((L).getD j 0:Nat):Int),(.read 60)),(11,.int ((j-1:Nat):Int),.none),(12,Cy (.osl 60 1 r.homes.length) (j-1),.none),(13,.int (((L).getD (j-1) 0:Nat):Int),(.read 60)),(14,_,.none)] [0,1,2,3,8,9,34] ⟨kN hx9,Hs j r.homes.length,Bb (Co 3 (.tmp 25) κ isAgg3 60 j 0 1 κ 3 r.homes.length (λxi=>AV.int (((L).getD xi 0:Nat):Int)) κ ω δ),Bb (Bz (v:= .int .i64 (IntKind.wrap .i64 ((j:Int)-1))) (v':= .int .i64 ((j-1:Nat):Int)) _ κ rfl κ (λw=>by kernel_rfl) (congrArg (Value.int .i64) ((IntWalk.i64_in _ ω).trans ω))),Hs (j-1) r.homes.length,Bb (Co 3 (.tmp 30) κ isAgg3 60 (j-1) 0 1 κ 3 r.homes.length (λxi=>AV.int (((L).getD xi 0:Nat):Int)) κ ω δ),qE (sM r (Aj p r c k) (L.getD j 0) (L.getD (j-1) 0) hg.2 (hF4 j ω) (hF4 (j-1) ω) hV),trivial⟩ (Ae 1 (Em 34 (orI (Kj (Mk r (Aj p r c k) (L.getD j 0)) (Mk r (Aj p r c k) (L.getD (j-1) 0))) (Kj ((L.getD j 0:Nat):Int) ((L.getD (j-1) 0:Nat):Int))<0) (λhx10 hx10d=>?_) (λhx10 hx10d=>?_)))
        ·
         exact Ae 5 (He [(4,.int ((j-1:Nat):Int),.none),(7,.int ((j-1:Nat):Int),.none),(8,Cy (.osl 60 1 r.homes.length) (j-1),.none),(9,.int (((L).getD (j-1) 0:Nat):Int),(.read 60)),(12,Cy (.osl 60 1 r.homes.length) j,.none),(13,.int (((L).getD j 0:Nat):Int),(.read 60)),(14,Cy (.osl 60 1 r.homes.length) j,.none),(15,.lit Go.undef,(.set 60 (.vec 3 1 r.homes.length (λxi=>if xi=j then .int (((L).getD (j-1) 0:Nat):Int) else (λxi=>AV.int (((L).getD xi 0:Nat):Int)) xi)))),(16,Cy (.osl 60 1 r.homes.length) (j-1),.none),(17,.lit Go.undef,(.set 60 (.vec 3 1 r.homes.length (λxi=>if xi=j-1 then .int (((L).getD j 0:Nat):Int) else (λxi=>if xi=j then .int (((L).getD (j-1) 0:Nat):Int) else (λxi=>AV.int (((L).getD xi 0:Nat):Int)) xi) xi))))] [0,1,2,3,8,9] ⟨Bb (Bz (v:= .int .i64 (IntKind.wrap .i64 ((j:Int)-1))) (v':= .int .i64 ((j-1:Nat):Int)) _ κ rfl κ (λw=>by kernel_rfl) (congrArg (Value.int .i64) ((IntWalk.i64_in _ ω).trans ω))),Bb (Bz (v:= .int .i64 (IntKind.wrap .i64 ((j:Int)-1))) (v':= .int .i64 ((j-1:Nat):Int)) _ κ rfl κ (λw=>by kernel_rfl) (congrArg (Value.int .i64) ((IntWalk.i64_in _ ω).trans ω))),Hs (j-1) r.homes.length,Bb (Co 3 (.tmp 45) κ isAgg3 60 (j-1) 0 1 κ 3 r.homes.length (λxi=>AV.int (((L).getD xi 0:Nat):Int)) κ ω δ),Hs j r.homes.length,Bb (Co 3 (.tmp 49) κ isAgg3 60 j 0 1 κ 3 r.homes.length (λxi=>AV.int (((L).getD xi 0:Nat):Int)) κ ω δ),Hs j r.homes.length,Bb (Ed 3 (.tmp 51) (.tmp 46) κ 1 sizeOf3 60 j κ 3 r.homes.length (λxi=>AV.int (((L).getD xi 0:Nat):Int)) κ ω κ κ κ (.int (((L).getD (j-1) 0:Nat):Int)) κ),Hs (j-1) r.homes.length,Bb (Ed 3 (.tmp 52) (.tmp 50) κ 1 sizeOf3 60 (j-1) κ 3 r.homes.length (λxi=>if xi=j then .int (((L).getD (j-1) 0:Nat):Int) else (λxi=>AV.int (((L).getD xi 0:Nat):Int)) xi) κ ω κ κ κ (.int (((L).getD j 0:Nat):Int)) κ),trivial⟩ (Ae 2 (Mr 60 3 1 r.homes.length (λxi=>if xi=j-1 then .int (((L).getD j 0:Nat):Int) else (λxi=>if xi=j then .int (((L).getD (j-1) 0:Nat):Int) else (λxi=>AV.int (((L).getD xi 0:Nat):Int)) xi) xi) (λxi=>AV.int (((Ni L (j-1)).getD xi 0:Nat):Int)) (λx9 hx9=>vB L j x9 ω ω) (Ae 2 (Dm ((j:Int)-1) ((j-1:Nat):Int) (Ae 2 (Ja [0,1,2,3,8,9] (hJ4 _ _ (by omega:(j-1)+1<j+1) ⟨j-1,Ni L (j-1),rfl,⟨(eZ ω ((Zh r (Aj p r c k) (L.getD j 0) (L.getD (j-1) 0)).symm.trans hx10)).symm.trans hF1,ω,by rw[Iu];exact hF3,by rw[<-hF3];exact fS ω (by rw[hF3];exact hF4)⟩,rfl⟩))))))))
        ·
         refine Ae 7 ?_
         have hL:L=Ko (Wl r (Aj p r c k)) (List.range r.homes.length) (i+1):=(fA ω ((Zh r (Aj p r c k) (L.getD j 0) (L.getD (j-1) 0)).symm.trans hx10)).symm.trans hF1
         subst hL
         exact Ae 2 (Dm (((i+1:Nat):Int)+1) ((i+1+1:Nat):Int) (Ae 2 (Ja [0,1,2,3,8] (hJ3 ω trivial))))
       ·
        refine He [(2,.bool false,.none)] [0,1,2,3,8,9,34] ⟨kN hx9,trivial⟩ (Ae 8 ?_)
        have hL:L=Ko (Wl r (Aj p r c k)) (List.range r.homes.length) (i+1):=(fB ω).symm.trans hF1
        subst hL
        exact Ae 2 (Dm (((i+1:Nat):Int)+1) ((i+1+1:Nat):Int) (Ae 2 (Ja [0,1,2,3,8] (hJ3 ω trivial))))
      ·
       refine Ae 5 (pE (Ae 7 (pE (Ae 1 (pE (Ae 2 ?_))))))
       have hie:i=r.homes.length-1:=by omega
       subst hie
       refine Mr 60 3 1 r.homes.length (λxi=>AV.int (((Ko (Wl r (Aj p r c k)) (List.range r.homes.length) (r.homes.length-1)).getD xi 0:Nat):Int)) (λxi=>AV.int (((Av r (Aj p r c k)).getD xi 0:Nat):Int)) (λx9 hx9=>rfl) (Yw 60 [17] 3 1 r.homes.length (λxi=>AV.int (((Av r (Aj p r c k)).getD xi 0:Nat):Int)) (Fp λ_ _=>rfl) (Ae 8 (Wn [3,4,5,8,10,15,29,30,31,63,64,65] (λm s=>∃y n2,y<=r.homes.length/\m=r.homes.length-y/\(n2=(It p r c k y).length/\n2<=k*128+y*16)/\(((n2=0)/\s=⟨[(3,.elt 3 (λxi=>[Dp p.names,Fh p.homes,Ek p.acts].getD (0+xi) .top)),(4,Kt r),(5,.elt 2 (λxi=>[.int c.craft,.int c.act].getD (0+xi) .top)),(8,.lit (.slice none 0 0)),(10,.int ((r.waits).getD k 0)),(15,My (Aj p r c k)),(29,Bq r.waits),(30,.int (r.waits.length:Int)),(31,.int (k:Int)),(63,.sl 1 r.homes.length (λxi=>AV.int (((Av r (Aj p r c k)).getD xi 0:Nat):Int))),(64,.int (r.homes.length:Int)),(65,.int (y:Int))],[],61,99⟩)\/((0<n2)/\s=⟨[(3,.elt 3 (λxi=>[Dp p.names,Fh p.homes,Ek p.acts].getD (0+xi) .top)),(4,Kt r),(5,.elt 2 (λxi=>[.int c.craft,.int c.act].getD (0+xi) .top)),(8,.osl 50 3 n2),(10,.int ((r.waits).getD k 0)),(15,My (Aj p r c k)),(29,Bq r.waits),(30,.int (r.waits.length:Int)),(31,.int (k:Int)),(63,.sl 1 r.homes.length (λxi=>AV.int (((Av r (Aj p r c k)).getD xi 0:Nat):Int))),(64,.int (r.homes.length:Int)),(65,.int (y:Int))],[(50,.vec 52 3 n2 (λxi=>Bc ((It p r c k y).getD xi Rl.none)))],61,99⟩))) r.homes.length ⟨0,n,Nat.zero_le _,rfl,⟨by rw[Xl];omega,ω⟩,(.inl ⟨hk0,κ⟩)⟩ ?_)))
       rintro _ _ ⟨y,n2,hyn,rfl,hFy,(⟨hy0,rfl⟩|⟨hy0,rfl⟩)⟩ J5 hJ5
       ·
        refine Ae 6 (Em 66 ((y:Int)<(r.homes.length:Int)) (λhx11 hx11d=>?_) (λhx11 hx11d=>?_))
        ·
         refine Ae 7 (Gg y r.homes.length (Ae 4 ?_))
         have hom:=Lk r (Aj p r c k) (x:=y) ω
         refine Ae 9 (Wn [3,4,5,8,10,15,20,29,30,31,63,64,65,70,71,72] (λm s=>∃u n3,u<=r.rises.length/\m=r.rises.length-u/\(n3=(Cl p r c k y u).length/\n3<=k*128+y*16+u)/\(((n3=0)/\s=⟨[(3,.elt 3 (λxi=>[Dp p.names,Fh p.homes,Ek p.acts].getD (0+xi) .top)),(4,Kt r),(5,.elt 2 (λxi=>[.int c.craft,.int c.act].getD (0+xi) .top)),(8,.lit (.slice none 0 0)),(10,.int ((r.waits).getD k 0)),(15,My (Aj p r c k)),(20,.int (((Av r (Aj p r c k)).getD y 0:Nat):Int)),(29,Bq r.waits),(30,.int (r.waits.length:Int)),(31,.int (k:Int)),(63,.sl 1 r.homes.length (λxi=>AV.int (((Av r (Aj p r c k)).getD xi 0:Nat):Int))),(64,.int (r.homes.length:Int)),(65,.int (y:Int)),(70,Bq r.rises),(71,.int (r.rises.length:Int)),(72,.int (u:Int))],[],61,99⟩)\/((0<n3)/\s=⟨[(3,.elt 3 (λxi=>[Dp p.names,Fh p.homes,Ek p.acts].getD (0+xi) .top)),(4,Kt r),(5,.elt 2 (λxi=>[.int c.craft,.int c.act].getD (0+xi) .top)),(8,.osl 50 3 n3),(10,.int ((r.waits).getD k 0)),(15,My (Aj p r c k)),(20,.int (((Av r (Aj p r c k)).getD y 0:Nat):Int)),(29,Bq r.waits),(30,.int (r.waits.length:Int)),(31,.int (k:Int)),(63,.sl 1 r.homes.length (λxi=>AV.int (((Av r (Aj p r c k)).getD xi 0:Nat):Int))),(64,.int (r.homes.length:Int)),(65,.int (y:Int)),(70,Bq r.rises),(71,.int (r.rises.length:Int)),(72,.int (u:Int))],[(50,.vec 52 3 n3 (λxi=>Bc ((Cl p r c k y u).getD xi Rl.none)))],61,99⟩))) r.rises.length ⟨0,n2,Nat.zero_le _,rfl,⟨by rw[Oq];omega,ω⟩,(.inl ⟨hy0,κ⟩)⟩ ?_)
         rintro _ _ ⟨u,n3,hun,rfl,hFu,(⟨hu0,rfl⟩|⟨hu0,rfl⟩)⟩ J6 hJ6
         ·
          refine Ae 6 (Em 73 ((u:Int)<(r.rises.length:Int)) (λhx12 hx12d=>?_) (λhx12 hx12d=>?_))
          ·
           refine Ae 5 ?_
           have hris:=hg.2.2.2.2.2.2 u ω
           refine Ae 2 (Gg u r.rises.length (Ae 9 (Gg ((Av r (Aj p r c k)).getD y 0) r.homes.length (Ae 2 (Df (Jq (r.homes.getD ((Av r (Aj p r c k)).getD y 0) V3.zero) (r.rises.getD u 0) (hg.2.2.1 _ hom).1 ⟨hris.1,hris.2.1⟩) (Ae 1 (kK 83 (Hk (r.homes.getD ((Av r (Aj p r c k)).getD y 0) V3.zero) (r.rises.getD u 0)) (λhx13=>?_) (λhx13=>?_))))))))
           ·
            refine Ae 2 (Df (Jq (Aj p r c k) (r.rises.getD u 0) hV ⟨hris.1,hris.2.1⟩) (Ae 3 (kK 87 (Hk (Aj p r c k) (r.rises.getD u 0)) (λhx14=>?_) (λhx14=>?_))))
            ·
             exact Ae 7 (Bx (.osl 61 3 1) (.new 61 (.vec 52 3 1 (λ_=> .lit (.agg #[.int .i64 (((Av r (Aj p r c k)).getD y 0:Nat):Int),.int .i64 ((r.waits).getD k 0),.int .i64 ((r.rises).getD u 0)])))) (Ak 45 1 #[(0,(.tmp 92))] κ underlying45 3 sizeOf52 _ zeroValue52 κ β β β 61 [.int (((Av r (Aj p r c k)).getD y 0:Nat):Int),.int ((r.waits).getD k 0),.int ((r.rises).getD u 0)] κ (λ_=> .lit (.agg #[.int .i64 (((Av r (Aj p r c k)).getD y 0:Nat):Int),.int .i64 ((r.waits).getD k 0),.int .i64 ((r.rises).getD u 0)])) κ) (Bx (.osl 62 3 1) (.newr 61 62 (.vec 52 3 1 (λxi=>Bc ((Cl p r c k y (u+1)).getD xi Rl.none)))) (Cj (.tmp 88) (.tmp 93) 45 κ underlying45 3 24 (.agg #[.int .i64 0,.int .i64 0,.int .i64 0]) κ κ δ 1 ω (λ_=> .lit (.agg #[.int .i64 (((Av r (Aj p r c k)).getD y 0:Nat):Int),.int .i64 ((r.waits).getD k 0),.int .i64 ((r.rises).getD u 0)])) (λxi=>Bc ((Cl p r c k y (u+1)).getD xi Rl.none)) 62 (λi hi=>by(obtain rfl:i=0:=(ω));show Bc _=Bc ⟨(((Av r (Aj p r c k)).getD y 0:Nat):Int),r.waits.getD k 0,r.rises.getD u 0⟩;rw[Dy hx13 hx14,List.eq_nil_of_length_eq_zero (by omega:(Cl p r c k y u).length=0)];rfl) (λi hi j hj=>match j,hj with|0,_=>rfl|1,_=>rfl|2,_=>rfl|_+3,h=>absurd h ω) (by unfold maxLen;omega) ω κ 61 52 κ κ) (Ae 5 (Dm ((u:Int)+1) ((u+1:Nat):Int) (Ae 2 (Fu [3,4,5,8,10,15,20,29,30,31,63,64,65,70,71,72] [(62,50)] 61 0 hA0 [(52,3,1,(λ_=> .lit (.agg #[.int .i64 (((Av r (Aj p r c k)).getD y 0:Nat):Int),.int .i64 ((r.waits).getD k 0),.int .i64 ((r.rises).getD u 0)]))),(52,3,1,(λxi=>Bc ((Cl p r c k y (u+1)).getD xi Rl.none)))] ⟨(Fp λ_ _=>rfl),(Fp λ_ _=>rfl),trivial⟩ (hJ6 _ _ (by omega:r.rises.length-(u+1)<r.rises.length-u) ⟨u+1,1,ω,rfl,⟨by rw[Dy hx13 hx14,List.length_append,List.length_singleton];omega,ω⟩,(.inr ⟨ω,rfl⟩)⟩)))))))
            ·
             exact Ae 5 (Dm ((u:Int)+1) ((u+1:Nat):Int) (Ae 2 (Ja [3,4,5,8,10,15,20,29,30,31,63,64,65,70,71,72] (hJ6 _ _ (by omega:r.rises.length-(u+1)<r.rises.length-u) ⟨u+1,0,ω,rfl,⟨by rw[Cf (.inr hx14)];omega,ω⟩,(.inl ⟨ω,rfl⟩)⟩))))
           ·
            exact Ae 11 (Dm ((u:Int)+1) ((u+1:Nat):Int) (Ae 2 (Ja [3,4,5,8,10,15,20,29,30,31,63,64,65,70,71,72] (hJ6 _ _ (by omega:r.rises.length-(u+1)<r.rises.length-u) ⟨u+1,0,ω,rfl,⟨by rw[Cf (.inl hx13)];omega,ω⟩,(.inl ⟨ω,rfl⟩)⟩))))
          ·
           exact Ae 8 (Dm ((y:Int)+1) ((y+1:Nat):Int) (Ae 2 (Ja [3,4,5,8,10,15,29,30,31,63,64,65] (hJ5 _ _ (by omega:r.homes.length-(y+1)<r.homes.length-y) ⟨y+1,0,ω,rfl,⟨by rw[<-Kl,show r.rises.length=u by omega];omega,ω⟩,(.inl ⟨ω,rfl⟩)⟩))))
         ·
          refine Ae 6 (Em 73 ((u:Int)<(r.rises.length:Int)) (λhx15 hx15d=>?_) (λhx15 hx15d=>?_))
          ·
           refine Ae 5 ?_
           have hris:=hg.2.2.2.2.2.2 u ω
           refine Ae 2 (Gg u r.rises.length (Ae 9 (Gg ((Av r (Aj p r c k)).getD y 0) r.homes.length (Ae 2 (Df (Jq (r.homes.getD ((Av r (Aj p r c k)).getD y 0) V3.zero) (r.rises.getD u 0) (hg.2.2.1 _ hom).1 ⟨hris.1,hris.2.1⟩) (Ae 1 (kK 83 (Hk (r.homes.getD ((Av r (Aj p r c k)).getD y 0) V3.zero) (r.rises.getD u 0)) (λhx16=>?_) (λhx16=>?_))))))))
           ·
            refine Ae 2 (Df (Jq (Aj p r c k) (r.rises.getD u 0) hV ⟨hris.1,hris.2.1⟩) (Ae 3 (kK 87 (Hk (Aj p r c k) (r.rises.getD u 0)) (λhx17=>?_) (λhx17=>?_))))
            ·
             exact Ae 7 (Bx (.osl 61 3 1) (.new 61 (.vec 52 3 1 (λ_=> .lit (.agg #[.int .i64 (((Av r (Aj p r c k)).getD y 0:Nat):Int),.int .i64 ((r.waits).getD k 0),.int .i64 ((r.rises).getD u 0)])))) (Ak 45 1 #[(0,(.tmp 92))] κ underlying45 3 sizeOf52 _ zeroValue52 κ β β β 61 [.int (((Av r (Aj p r c k)).getD y 0:Nat):Int),.int ((r.waits).getD k 0),.int ((r.rises).getD u 0)] κ (λ_=> .lit (.agg #[.int .i64 (((Av r (Aj p r c k)).getD y 0:Nat):Int),.int .i64 ((r.waits).getD k 0),.int .i64 ((r.rises).getD u 0)])) κ) (Bx (.osl 62 3 (n3+1)) (.grow2 50 61 62 (.vec 52 3 (n3+1) (λxi=>Bc ((Cl p r c k y (u+1)).getD xi Rl.none)))) (Ck (.tmp 88) (.tmp 93) 45 κ underlying45 3 24 (.agg #[.int .i64 0,.int .i64 0,.int .i64 0]) κ κ δ n3 1 ω (λxi=>Bc ((Cl p r c k y u).getD xi Rl.none)) (λ_=> .lit (.agg #[.int .i64 (((Av r (Aj p r c k)).getD y 0:Nat):Int),.int .i64 ((r.waits).getD k 0),.int .i64 ((r.rises).getD u 0)])) (λxi=>Bc ((Cl p r c k y (u+1)).getD xi Rl.none)) 62 ω (by unfold maxLen;omega) (λi hi=>by show Bc _=Bc _;rw[Dy hx16 hx17,Jl,if_pos ω]) (λi hi=>by(obtain rfl:i=0:=(ω));show Bc _=Bc ⟨(((Av r (Aj p r c k)).getD y 0:Nat):Int),r.waits.getD k 0,r.rises.getD u 0⟩;rw[Dy hx16 hx17,Jl,if_neg ω,show n3+0-(Cl p r c k y u).length=0 by omega];rfl) (λi hi j hj=>match j,hj with|0,_=>rfl|1,_=>rfl|2,_=>rfl|_+3,h=>absurd h ω) 50 κ κ 61 52 κ κ) (Ae 5 (Dm ((u:Int)+1) ((u+1:Nat):Int) (Ae 2 (Fu [3,4,5,8,10,15,20,29,30,31,63,64,65,70,71,72] [(62,50)] 61 0 hA0 [(52,3,1,(λ_=> .lit (.agg #[.int .i64 (((Av r (Aj p r c k)).getD y 0:Nat):Int),.int .i64 ((r.waits).getD k 0),.int .i64 ((r.rises).getD u 0)]))),(52,3,n3+1,(λxi=>Bc ((Cl p r c k y (u+1)).getD xi Rl.none)))] ⟨(Fp λ_ _=>rfl),(Fp λ_ _=>rfl),trivial⟩ (hJ6 _ _ (by omega:r.rises.length-(u+1)<r.rises.length-u) ⟨u+1,n3+1,ω,rfl,⟨by rw[Dy hx16 hx17,List.length_append,List.length_singleton];omega,ω⟩,(.inr ⟨ω,rfl⟩)⟩)))))))
            ·
             exact Ae 5 (Dm ((u:Int)+1) ((u+1:Nat):Int) (Ae 2 (Mr 50 52 3 n3 (λxi=>Bc ((Cl p r c k y u).getD xi Rl.none)) (λxi=>Bc ((Cl p r c k y (u+1)).getD xi Rl.none)) (λx9 hx9=>by rw[Cf (.inr hx17)]) (Ja [3,4,5,8,10,15,20,29,30,31,63,64,65,70,71,72] (hJ6 _ _ (by omega:r.rises.length-(u+1)<r.rises.length-u) ⟨u+1,n3,ω,rfl,⟨by rw[Cf (.inr hx17)];omega,ω⟩,(.inr ⟨ω,rfl⟩)⟩)))))
           ·
            exact Ae 11 (Dm ((u:Int)+1) ((u+1:Nat):Int) (Ae 2 (Mr 50 52 3 n3 (λxi=>Bc ((Cl p r c k y u).getD xi Rl.none)) (λxi=>Bc ((Cl p r c k y (u+1)).getD xi Rl.none)) (λx9 hx9=>by rw[Cf (.inl hx16)]) (Ja [3,4,5,8,10,15,20,29,30,31,63,64,65,70,71,72] (hJ6 _ _ (by omega:r.rises.length-(u+1)<r.rises.length-u) ⟨u+1,n3,ω,rfl,⟨by rw[Cf (.inl hx16)];omega,ω⟩,(.inr ⟨ω,rfl⟩)⟩)))))
          ·
           exact Ae 7 (Mr 50 52 3 n3 (λxi=>Bc ((Cl p r c k y u).getD xi Rl.none)) (λxi=>Bc ((It p r c k (y+1)).getD xi Rl.none)) (λx9 hx9=>by rw[<-Kl,show r.rises.length=u by omega]) (Ae 1 (Dm ((y:Int)+1) ((y+1:Nat):Int) (Ae 2 (Ja [3,4,5,8,10,15,29,30,31,63,64,65] (hJ5 _ _ (by omega:r.homes.length-(y+1)<r.homes.length-y) ⟨y+1,n3,ω,rfl,⟨by rw[<-Kl,show r.rises.length=u by omega];omega,ω⟩,(.inr ⟨ω,rfl⟩)⟩))))))
        ·
         exact Ae 8 (Dm ((k:Int)+1) ((k+1:Nat):Int) (Ae 2 (Fu [3,4,5,8,29,30,31] [] 3 0 hA0 [] trivial (hJ1 _ _ (by omega:r.waits.length-(k+1)<r.waits.length-k) ⟨k+1,0,ω,rfl,⟨by rw[<-Ot hx2,show r.homes.length=y by omega];omega,ω⟩,(.inl ⟨ω,rfl⟩)⟩))))
       ·
        refine Ae 6 (Em 66 ((y:Int)<(r.homes.length:Int)) (λhx18 hx18d=>?_) (λhx18 hx18d=>?_))
        ·
         refine Ae 7 (Gg y r.homes.length (Ae 4 ?_))
         have hom:=Lk r (Aj p r c k) (x:=y) ω
         refine Mr 50 52 3 n2 (λxi=>Bc ((It p r c k y).getD xi Rl.none)) (λxi=>Bc ((Cl p r c k y 0).getD xi Rl.none)) (λx9 hx9=>by rw[Oq]) (Ae 9 (Wn [3,4,5,8,10,15,20,29,30,31,63,64,65,70,71,72] (λm s=>∃u n3,u<=r.rises.length/\m=r.rises.length-u/\(n3=(Cl p r c k y u).length/\n3<=k*128+y*16+u)/\((0<n3)/\s=⟨[(3,.elt 3 (λxi=>[Dp p.names,Fh p.homes,Ek p.acts].getD (0+xi) .top)),(4,Kt r),(5,.elt 2 (λxi=>[.int c.craft,.int c.act].getD (0+xi) .top)),(8,.osl 50 3 n3),(10,.int ((r.waits).getD k 0)),(15,My (Aj p r c k)),(20,.int (((Av r (Aj p r c k)).getD y 0:Nat):Int)),(29,Bq r.waits),(30,.int (r.waits.length:Int)),(31,.int (k:Int)),(63,.sl 1 r.homes.length (λxi=>AV.int (((Av r (Aj p r c k)).getD xi 0:Nat):Int))),(64,.int (r.homes.length:Int)),(65,.int (y:Int)),(70,Bq r.rises),(71,.int (r.rises.length:Int)),(72,.int (u:Int))],[(50,.vec 52 3 n3 (λxi=>Bc ((Cl p r c k y u).getD xi Rl.none)))],61,99⟩)) r.rises.length ⟨0,n2,Nat.zero_le _,rfl,⟨by rw[Oq];omega,ω⟩,⟨hy0,κ⟩⟩ ?_))
         rintro _ _ ⟨u,n3,hun,rfl,hFu,(⟨hu0,rfl⟩)⟩ J7 hJ7
         ·
          refine Ae 6 (Em 73 ((u:Int)<(r.rises.length:Int)) (λhx19 hx19d=>?_) (λhx19 hx19d=>?_))
          ·
           refine Ae 5 ?_
           have hris:=hg.2.2.2.2.2.2 u ω
           refine Ae 2 (Gg u r.rises.length (Ae 9 (Gg ((Av r (Aj p r c k)).getD y 0) r.homes.length (Ae 2 (Df (Jq (r.homes.getD ((Av r (Aj p r c k)).getD y 0) V3.zero) (r.rises.getD u 0) (hg.2.2.1 _ hom).1 ⟨hris.1,hris.2.1⟩) (Ae 1 (kK 83 (Hk (r.homes.getD ((Av r (Aj p r c k)).getD y 0) V3.zero) (r.rises.getD u 0)) (λhx20=>?_) (λhx20=>?_))))))))
           ·
            refine Ae 2 (Df (Jq (Aj p r c k) (r.rises.getD u 0) hV ⟨hris.1,hris.2.1⟩) (Ae 3 (kK 87 (Hk (Aj p r c k) (r.rises.getD u 0)) (λhx21=>?_) (λhx21=>?_))))
            ·
             exact Ae 7 (Bx (.osl 61 3 1) (.new 61 (.vec 52 3 1 (λ_=> .lit (.agg #[.int .i64 (((Av r (Aj p r c k)).getD y 0:Nat):Int),.int .i64 ((r.waits).getD k 0),.int .i64 ((r.rises).getD u 0)])))) (Ak 45 1 #[(0,(.tmp 92))] κ underlying45 3 sizeOf52 _ zeroValue52 κ β β β 61 [.int (((Av r (Aj p r c k)).getD y 0:Nat):Int),.int ((r.waits).getD k 0),.int ((r.rises).getD u 0)] κ (λ_=> .lit (.agg #[.int .i64 (((Av r (Aj p r c k)).getD y 0:Nat):Int),.int .i64 ((r.waits).getD k 0),.int .i64 ((r.rises).getD u 0)])) κ) (Bx (.osl 62 3 (n3+1)) (.grow2 50 61 62 (.vec 52 3 (n3+1) (λxi=>Bc ((Cl p r c k y (u+1)).getD xi Rl.none)))) (Ck (.tmp 88) (.tmp 93) 45 κ underlying45 3 24 (.agg #[.int .i64 0,.int .i64 0,.int .i64 0]) κ κ δ n3 1 ω (λxi=>Bc ((Cl p r c k y u).getD xi Rl.none)) (λ_=> .lit (.agg #[.int .i64 (((Av r (Aj p r c k)).getD y 0:Nat):Int),.int .i64 ((r.waits).getD k 0),.int .i64 ((r.rises).getD u 0)])) (λxi=>Bc ((Cl p r c k y (u+1)).getD xi Rl.none)) 62 ω (by unfold maxLen;omega) (λi hi=>by show Bc _=Bc _;rw[Dy hx20 hx21,Jl,if_pos ω]) (λi hi=>by(obtain rfl:i=0:=(ω));show Bc _=Bc ⟨(((Av r (Aj p r c k)).getD y 0:Nat):Int),r.waits.getD k 0,r.rises.getD u 0⟩;rw[Dy hx20 hx21,Jl,if_neg ω,show n3+0-(Cl p r c k y u).length=0 by omega];rfl) (λi hi j hj=>match j,hj with|0,_=>rfl|1,_=>rfl|2,_=>rfl|_+3,h=>absurd h ω) 50 κ κ 61 52 κ κ) (Ae 5 (Dm ((u:Int)+1) ((u+1:Nat):Int) (Ae 2 (Fu [3,4,5,8,10,15,20,29,30,31,63,64,65,70,71,72] [(62,50)] 61 0 hA0 [(52,3,1,(λ_=> .lit (.agg #[.int .i64 (((Av r (Aj p r c k)).getD y 0:Nat):Int),.int .i64 ((r.waits).getD k 0),.int .i64 ((r.rises).getD u 0)]))),(52,3,n3+1,(λxi=>Bc ((Cl p r c k y (u+1)).getD xi Rl.none)))] ⟨(Fp λ_ _=>rfl),(Fp λ_ _=>rfl),trivial⟩ (hJ7 _ _ (by omega:r.rises.length-(u+1)<r.rises.length-u) ⟨u+1,n3+1,ω,rfl,⟨by rw[Dy hx20 hx21,List.length_append,List.length_singleton];omega,ω⟩,⟨ω,rfl⟩⟩)))))))
            ·
             exact Ae 5 (Dm ((u:Int)+1) ((u+1:Nat):Int) (Ae 2 (Mr 50 52 3 n3 (λxi=>Bc ((Cl p r c k y u).getD xi Rl.none)) (λxi=>Bc ((Cl p r c k y (u+1)).getD xi Rl.none)) (λx9 hx9=>by rw[Cf (.inr hx21)]) (Ja [3,4,5,8,10,15,20,29,30,31,63,64,65,70,71,72] (hJ7 _ _ (by omega:r.rises.length-(u+1)<r.rises.length-u) ⟨u+1,n3,ω,rfl,⟨by rw[Cf (.inr hx21)];omega,ω⟩,⟨ω,rfl⟩⟩)))))
           ·
            exact Ae 11 (Dm ((u:Int)+1) ((u+1:Nat):Int) (Ae 2 (Mr 50 52 3 n3 (λxi=>Bc ((Cl p r c k y u).getD xi Rl.none)) (λxi=>Bc ((Cl p r c k y (u+1)).getD xi Rl.none)) (λx9 hx9=>by rw[Cf (.inl hx20)]) (Ja [3,4,5,8,10,15,20,29,30,31,63,64,65,70,71,72] (hJ7 _ _ (by omega:r.rises.length-(u+1)<r.rises.length-u) ⟨u+1,n3,ω,rfl,⟨by rw[Cf (.inl hx20)];omega,ω⟩,⟨ω,rfl⟩⟩)))))
          ·
           exact Ae 7 (Mr 50 52 3 n3 (λxi=>Bc ((Cl p r c k y u).getD xi Rl.none)) (λxi=>Bc ((It p r c k (y+1)).getD xi Rl.none)) (λx9 hx9=>by rw[<-Kl,show r.rises.length=u by omega]) (Ae 1 (Dm ((y:Int)+1) ((y+1:Nat):Int) (Ae 2 (Ja [3,4,5,8,10,15,29,30,31,63,64,65] (hJ5 _ _ (by omega:r.homes.length-(y+1)<r.homes.length-y) ⟨y+1,n3,ω,rfl,⟨by rw[<-Kl,show r.rises.length=u by omega];omega,ω⟩,(.inr ⟨ω,rfl⟩)⟩))))))
        ·
         exact Ae 7 (Mr 50 52 3 n2 (λxi=>Bc ((It p r c k y).getD xi Rl.none)) (λxi=>Bc ((Gx p r c (k+1)).getD xi Rl.none)) (λx9 hx9=>by rw[<-Ot hx2,show r.homes.length=y by omega]) (Ae 1 (Dm ((k:Int)+1) ((k+1:Nat):Int) (Ae 2 (Fu [3,4,5,8,29,30,31] [(50,50)] 51 0 hA0 [(52,3,n2,(λxi=>Bc ((Gx p r c (k+1)).getD xi Rl.none)))] ⟨(Fp λ_ _=>rfl),trivial⟩ (hJ1 _ _ (by omega:r.waits.length-(k+1)<r.waits.length-k) ⟨k+1,n2,ω,rfl,⟨by rw[<-Ot hx2,show r.homes.length=y by omega];omega,ω⟩,(.inr ⟨ω,rfl⟩)⟩))))))
   ·
    exact Df (Us hp hg.1 hcs hg.2 ω hx2) (Ae 27 (Dm ((k:Int)+1) ((k+1:Nat):Int) (Ae 2 (Fu [3,4,5,8,29,30,31] [] 3 0 hA0 [] trivial (hJ1 _ _ (by omega:r.waits.length-(k+1)<r.waits.length-k) ⟨k+1,0,ω,rfl,⟨by rw[Tb hx2];omega,ω⟩,(.inl ⟨ω,rfl⟩)⟩)))))
  ·
   exact Ae 14 (Fz (.lit (.tuple #[.slice none 0 0,.int .i64 0])) (by have hke:k=r.waits.length:=(ω);subst hke;exact(if_pos (by rw[Kq];omega)).symm))
 ·
  refine Ae 6 (Em 32 ((k:Int)<(r.waits.length:Int)) (λhx22 hx22d=>?_) (λhx22 hx22d=>?_))
  ·
   refine Ae 7 (Gg k r.waits.length (Ae 10 ?_))
   refine Ea (Xk p r c k) (λhx23=>?_) (λhx23=>?_)
   ·
    refine Df (Tm hp hg.1 hcs hg.2 ω hx23) (Ae 19 (Kf 47 (decide ((((Kx p c (Ic p r c (r.waits.getD k 0))):Nat):Int)<0)) false (decide_eq_false ω) (Ae 5 ?_)))
    have hV:=Zm hg.1 hx23
    refine Yv 51 (Ae 7 (Yv 52 (Ae 15 (Wn [3,4,5,8,10,15,16,17,29,30,31,51,52] (λm s=>∃a,a<=r.homes.length/\m=r.homes.length-a/\True/\((a=0/\s=⟨[(3,.elt 3 (λxi=>[Dp p.names,Fh p.homes,Ek p.acts].getD (0+xi) .top)),(4,Kt r),(5,.elt 2 (λxi=>[.int c.craft,.int c.act].getD (0+xi) .top)),(8,.osl 50 3 n),(10,.int ((r.waits).getD k 0)),(15,My (Aj p r c k)),(16,iK r (Aj p r c k)),(17,.lit (.slice none 0 0)),(29,Bq r.waits),(30,.int (r.waits.length:Int)),(31,.int (k:Int)),(51,.int (r.homes.length:Int)),(52,.int ((0:Nat):Int))],[(50,.vec 52 3 n (λxi=>Bc ((Gx p r c k).getD xi Rl.none)))],53,99⟩)\/(0<a/\s=⟨[(3,.elt 3 (λxi=>[Dp p.names,Fh p.homes,Ek p.acts].getD (0+xi) .top)),(4,Kt r),(5,.elt 2 (λxi=>[.int c.craft,.int c.act].getD (0+xi) .top)),(8,.osl 50 3 n),(10,.int ((r.waits).getD k 0)),(15,My (Aj p r c k)),(16,iK r (Aj p r c k)),(17,.osl 60 1 a),(29,Bq r.waits),(30,.int (r.waits.length:Int)),(31,.int (k:Int)),(51,.int (r.homes.length:Int)),(52,.int (a:Int))],[(50,.vec 52 3 n (λxi=>Bc ((Gx p r c k).getD xi Rl.none))),(60,.vec 3 1 a (λxi=>AV.int (xi:Int)))],61,99⟩))) r.homes.length ⟨0,Nat.zero_le _,rfl,trivial,.inl ⟨rfl,κ⟩⟩ ?_))))
    rintro _ _ ⟨a,han,rfl,hFa,(⟨ha0,rfl⟩|⟨ha0,rfl⟩)⟩ J8 hJ8
    ·
     subst ha0
     refine Ae 6 (Em 53 (((0:Nat):Int)<(r.homes.length:Int)) (λhx24 hx24d=>?_) (λhx24 hx24d=>?_))
     ·
      exact Ae 14 (Bx (.osl 53 1 1) (.new 53 (.vec 3 1 1 (λ_=> .int ((0:Nat):Int)))) (Ak 23 1 #[(0,(.tmp 56))] κ underlying23 1 sizeOf3 _ zeroValue3 κ β β β 53 [.int ((0:Nat):Int)] κ (λ_=> .int ((0:Nat):Int)) κ) (Bx (.osl 54 1 1) (.newr 53 54 (.vec 3 1 1 (λxi=>AV.int (xi:Int)))) (Cj (.tmp 55) (.tmp 57) 23 κ underlying23 1 8 (.int .i64 0) κ κ δ 1 ω (λ_=> .int ((0:Nat):Int)) (λxi=>AV.int (xi:Int)) 54 (λi hi=>by(obtain rfl:i=0:=(ω));rfl) (λi hi j hj=>by obtain rfl:j=0:=(ω);rfl) (by unfold maxLen;omega) ω κ 53 3 κ κ) (Ae 5 (Dm (((0:Nat):Int)+1) ((0+1:Nat):Int) (Ae 2 (Fu [3,4,5,8,10,15,16,17,29,30,31,51,52] [(50,50),(54,60)] 61 0 hA0 [(52,3,n,(λxi=>Bc ((Gx p r c k).getD xi Rl.none))),(3,1,1,(λ_=> .int ((0:Nat):Int))),(3,1,1,(λxi=>AV.int (xi:Int)))] ⟨(Fp λ_ _=>rfl),(Fp λ_ _=>rfl),(Fp λ_ _=>rfl),trivial⟩ (hJ8 _ _ (by omega:r.homes.length-(0+1)<r.homes.length-0) ⟨0+1,ω,rfl,trivial,.inr ⟨Nat.succ_pos _,rfl⟩⟩)))))))
     ·
      refine Ae 6 ?_
      exfalso;omega
    ·
     refine Ae 6 (Em 53 ((a:Int)<(r.homes.length:Int)) (λhx25 hx25d=>?_) (λhx25 hx25d=>?_))
     ·
      exact Ae 14 (Bx (.osl 61 1 1) (.new 61 (.vec 3 1 1 (λ_=> .int (a:Int)))) (Ak 23 1 #[(0,(.tmp 56))] κ underlying23 1 sizeOf3 _ zeroValue3 κ β β β 61 [.int (a:Int)] κ (λ_=> .int (a:Int)) κ) (Bx (.osl 62 1 (a+1)) (.grow2 60 61 62 (.vec 3 1 (a+1) (λxi=>AV.int (xi:Int)))) (Ck (.tmp 55) (.tmp 57) 23 κ underlying23 1 8 (.int .i64 0) κ κ δ a 1 ω (λxi=>AV.int (xi:Int)) (λ_=> .int (a:Int)) (λxi=>AV.int (xi:Int)) 62 ω (by unfold maxLen;omega) (λi hi=>rfl) (λi hi=>by(obtain rfl:i=0:=(ω));rfl) (λi hi j hj=>by obtain rfl:j=0:=(ω);rfl) 60 κ κ 61 3 κ κ) (Ae 5 (Dm ((a:Int)+1) ((a+1:Nat):Int) (Ae 2 (Fu [3,4,5,8,10,15,16,17,29,30,31,51,52] [(50,50),(62,60)] 61 0 hA0 [(52,3,n,(λxi=>Bc ((Gx p r c k).getD xi Rl.none))),(3,1,1,(λ_=> .int (a:Int))),(3,1,a+1,(λxi=>AV.int (xi:Int)))] ⟨(Fp λ_ _=>rfl),(Fp λ_ _=>rfl),(Fp λ_ _=>rfl),trivial⟩ (hJ8 _ _ (by omega:r.homes.length-(a+1)<r.homes.length-a) ⟨a+1,ω,rfl,trivial,.inr ⟨Nat.succ_pos _,rfl⟩⟩)))))))
     ·
      refine Ae 6 ?_
      have hae:a=r.homes.length:=by omega
      subst hae
      refine Ae 4 (Wi 61 func41 (λ_ hD26=>?_))
      refine Ae 11 (Nn (.int .u64 (IntKind.wrap .u64 (r.homes.length:Int))) (.int .u64 (r.homes.length:Int)) ?_ (congrArg (Value.int .u64) (IntWalk.u64_in _ ω)))
      refine Df (Aah _ ω) (Ae 1 (Wi 61 func76 (λ_ hD27=>?_)))
      refine Ae 11 (zT 1 (Ae 5 (Dm ((r.homes.length:Int)-0) ((r.homes.length-0:Nat):Int) (Ae 8 (Kf 25 (decide (((r.homes.length-0:Nat):Int)<=12)) true (decide_eq_true ω) (Ae 9 (Wi 61 func104 (λ_ hD28=>?_))))))))
      refine Ae 3 (Nn (.int .i64 1) (.int .i64 1) (Ae 4 (Mr 60 3 1 r.homes.length (λxi=>AV.int (xi:Int)) (λxi=>AV.int (((Ko (Wl r (Aj p r c k)) (List.range r.homes.length) 0).getD xi 0:Nat):Int)) (λx9 hx9=>by show AV.int _=AV.int _;rw[Ko,Se hx9]) (Mi [0,1,2,3,8] (r.homes.length-1) (λi=>True) (λi=>⟨[(0,.osl 60 1 r.homes.length),(1,.int 0),(2,.int (r.homes.length:Int)),(3,.fn 42 [iK r (Aj p r c k)]),(8,.int ((i+1:Nat):Int))],[(50,.vec 52 3 n (λxi=>Bc ((Gx p r c k).getD xi Rl.none))),(60,.vec 3 1 r.homes.length (λxi=>AV.int (((Ko (Wl r (Aj p r c k)) (List.range r.homes.length) i).getD xi 0:Nat):Int)))],61,53⟩) trivial (λi hin hFi J9 hJ9=>?_)))))
      refine Ae 8 (Em 14 (((i+1:Nat):Int)<(r.homes.length:Int)) (λhx29 hx29d=>?_) (λhx29 hx29d=>?_))
      ·
       refine Ae 12 (Wn [0,1,2,3,8,9] (λm s=>∃j L,m=j+1/\(Pb (Wl r (Aj p r c k)) L j=Ko (Wl r (Aj p r c k)) (List.range r.homes.length) (i+1)/\j<=i+1/\L.length=r.homes.length/\(∀x,x<r.homes.length->L.getD x 0<r.homes.length))/\s=⟨[(0,.osl 60 1 r.homes.length),(1,.int 0),(2,.int (r.homes.length:Int)),(3,.fn 42 [iK r (Aj p r c k)]),(8,.int ((i+1:Nat):Int)),(9,.int (j:Int))],[(50,.vec 52 3 n (λxi=>Bc ((Gx p r c k).getD xi Rl.none))),(60,.vec 3 1 r.homes.length (λxi=>AV.int (((L).getD xi 0:Nat):Int)))],61,53⟩) ((i+1)+1) ⟨i+1,(Ko (Wl r (Aj p r c k)) (List.range r.homes.length) i),rfl,⟨rfl,Nat.le_refl _,by rw[Ll,List.length_range],fQ r (Aj p r c k) ω⟩,κ⟩ ?_)
       rintro _ _ ⟨j,L,rfl,hF,rfl⟩ J10 hJ10
       obtain⟨hF1,hF2,hF3,hF4⟩:=hF
       refine Ae 2 (zK ((0:Int)<(j:Int)) (λhx30 hx30d=>?_) (λhx30 hx30d=>?_))
       ·
        refine He [(2,.bool true,.none),(7,Cy (.osl 60 1 r.homes.length) j,.none),(8,.int (((L).getD j 0:Nat):Int),(.read 60)),(11,.int ((j-1:Nat):Int),.none),(12,Cy (.osl 60 1 r.homes.length) (j-1),.none),(13,.int (((L).getD (j-1) 0:Nat):Int),(.read 60)),(14,_,.none)] [0,1,2,3,8,9,34] ⟨kN hx30,Hs j r.homes.length,Bb (Co 3 (.tmp 25) κ isAgg3 60 j 0 1 κ 3 r.homes.length (λxi=>AV.int (((L).getD xi 0:Nat):Int)) κ ω δ),Bb (Bz (v:= .int .i64 (IntKind.wrap .i64 ((j:Int)-1))) (v':= .int .i64 ((j-1:Nat):Int)) _ κ rfl κ (λw=>by kernel_rfl) (congrArg (Value.int .i64) ((IntWalk.i64_in _ ω).trans ω))),Hs (j-1) r.homes.length,Bb (Co 3 (.tmp 30) κ isAgg3 60 (j-1) 0 1 κ 3 r.homes.length (λxi=>AV.int (((L).getD xi 0:Nat):Int)) κ ω δ),qE (sM r (Aj p r c k) (L.getD j 0) (L.getD (j-1) 0) hg.2 (hF4 j ω) (hF4 (j-1) ω) hV),trivial⟩ (Ae 1 (Em 34 (orI (Kj (Mk r (Aj p r c k) (L.getD j 0)) (Mk r (Aj p r c k) (L.getD (j-1) 0))) (Kj ((L.getD j 0:Nat):Int) ((L.getD (j-1) 0:Nat):Int))<0) (λhx31 hx31d=>?_) (λhx31 hx31d=>?_)))
        ·
         exact Ae 5 (He [(4,.int ((j-1:Nat):Int),.none),(7,.int ((j-1:Nat):Int),.none),(8,Cy (.osl 60 1 r.homes.length) (j-1),.none),(9,.int (((L).getD (j-1) 0:Nat):Int),(.read 60)),(12,Cy (.osl 60 1 r.homes.length) j,.none),(13,.int (((L).getD j 0:Nat):Int),(.read 60)),(14,Cy (.osl 60 1 r.homes.length) j,.none),(15,.lit Go.undef,(.set 60 (.vec 3 1 r.homes.length (λxi=>if xi=j then .int (((L).getD (j-1) 0:Nat):Int) else (λxi=>AV.int (((L).getD xi 0:Nat):Int)) xi)))),(16,Cy (.osl 60 1 r.homes.length) (j-1),.none),(17,.lit Go.undef,(.set 60 (.vec 3 1 r.homes.length (λxi=>if xi=j-1 then .int (((L).getD j 0:Nat):Int) else (λxi=>if xi=j then .int (((L).getD (j-1) 0:Nat):Int) else (λxi=>AV.int (((L).getD xi 0:Nat):Int)) xi) xi))))] [0,1,2,3,8,9] ⟨Bb (Bz (v:= .int .i64 (IntKind.wrap .i64 ((j:Int)-1))) (v':= .int .i64 ((j-1:Nat):Int)) _ κ rfl κ (λw=>by kernel_rfl) (congrArg (Value.int .i64) ((IntWalk.i64_in _ ω).trans ω))),Bb (Bz (v:= .int .i64 (IntKind.wrap .i64 ((j:Int)-1))) (v':= .int .i64 ((j-1:Nat):Int)) _ κ rfl κ (λw=>by kernel_rfl) (congrArg (Value.int .i64) ((IntWalk.i64_in _ ω).trans ω))),Hs (j-1) r.homes.length,Bb (Co 3 (.tmp 45) κ isAgg3 60 (j-1) 0 1 κ 3 r.homes.length (λxi=>AV.int (((L).getD xi 0:Nat):Int)) κ ω δ),Hs j r.homes.length,Bb (Co 3 (.tmp 49) κ isAgg3 60 j 0 1 κ 3 r.homes.length (λxi=>AV.int (((L).getD xi 0:Nat):Int)) κ ω δ),Hs j r.homes.length,Bb (Ed 3 (.tmp 51) (.tmp 46) κ 1 sizeOf3 60 j κ 3 r.homes.length (λxi=>AV.int (((L).getD xi 0:Nat):Int)) κ ω κ κ κ (.int (((L).getD (j-1) 0:Nat):Int)) κ),Hs (j-1) r.homes.length,Bb (Ed 3 (.tmp 52) (.tmp 50) κ 1 sizeOf3 60 (j-1) κ 3 r.homes.length (λxi=>if xi=j then .int (((L).getD (j-1) 0:Nat):Int) else (λxi=>AV.int (((L).getD xi 0:Nat):Int)) xi) κ ω κ κ κ (.int (((L).getD j 0:Nat):Int)) κ),trivial⟩ (Ae 2 (Mr 60 3 1 r.homes.length (λxi=>if xi=j-1 then .int (((L).getD j 0:Nat):Int) else (λxi=>if xi=j then .int (((L).getD (j-1) 0:Nat):Int) else (λxi=>AV.int (((L).getD xi 0:Nat):Int)) xi) xi) (λxi=>AV.int (((Ni L (j-1)).getD xi 0:Nat):Int)) (λx9 hx9=>vB L j x9 ω ω) (Ae 2 (Dm ((j:Int)-1) ((j-1:Nat):Int) (Ae 2 (Ja [0,1,2,3,8,9] (hJ10 _ _ (by omega:(j-1)+1<j+1) ⟨j-1,Ni L (j-1),rfl,⟨(eZ ω ((Zh r (Aj p r c k) (L.getD j 0) (L.getD (j-1) 0)).symm.trans hx31)).symm.trans hF1,ω,by rw[Iu];exact hF3,by rw[<-hF3];exact fS ω (by rw[hF3];exact hF4)⟩,rfl⟩))))))))
        ·
         refine Ae 7 ?_
         have hL:L=Ko (Wl r (Aj p r c k)) (List.range r.homes.length) (i+1):=(fA ω ((Zh r (Aj p r c k) (L.getD j 0) (L.getD (j-1) 0)).symm.trans hx31)).symm.trans hF1
         subst hL
         exact Ae 2 (Dm (((i+1:Nat):Int)+1) ((i+1+1:Nat):Int) (Ae 2 (Ja [0,1,2,3,8] (hJ9 ω trivial))))
       ·
        refine He [(2,.bool false,.none)] [0,1,2,3,8,9,34] ⟨kN hx30,trivial⟩ (Ae 8 ?_)
        have hL:L=Ko (Wl r (Aj p r c k)) (List.range r.homes.length) (i+1):=(fB ω).symm.trans hF1
        subst hL
        exact Ae 2 (Dm (((i+1:Nat):Int)+1) ((i+1+1:Nat):Int) (Ae 2 (Ja [0,1,2,3,8] (hJ9 ω trivial))))
      ·
       refine Ae 5 (pE (Ae 7 (pE (Ae 1 (pE (Ae 2 ?_))))))
       have hie:i=r.homes.length-1:=by omega
       subst hie
       refine Mr 60 3 1 r.homes.length (λxi=>AV.int (((Ko (Wl r (Aj p r c k)) (List.range r.homes.length) (r.homes.length-1)).getD xi 0:Nat):Int)) (λxi=>AV.int (((Av r (Aj p r c k)).getD xi 0:Nat):Int)) (λx9 hx9=>rfl) (Yw 60 [17] 3 1 r.homes.length (λxi=>AV.int (((Av r (Aj p r c k)).getD xi 0:Nat):Int)) (Fp λ_ _=>rfl) (Mr 50 52 3 n (λxi=>Bc ((Gx p r c k).getD xi Rl.none)) (λxi=>Bc ((It p r c k 0).getD xi Rl.none)) (λx9 hx9=>by rw[Xl]) (Ae 8 (Wn [3,4,5,8,10,15,29,30,31,63,64,65] (λm s=>∃y n2,y<=r.homes.length/\m=r.homes.length-y/\(n2=(It p r c k y).length/\n2<=k*128+y*16)/\((0<n2)/\s=⟨[(3,.elt 3 (λxi=>[Dp p.names,Fh p.homes,Ek p.acts].getD (0+xi) .top)),(4,Kt r),(5,.elt 2 (λxi=>[.int c.craft,.int c.act].getD (0+xi) .top)),(8,.osl 50 3 n2),(10,.int ((r.waits).getD k 0)),(15,My (Aj p r c k)),(29,Bq r.waits),(30,.int (r.waits.length:Int)),(31,.int (k:Int)),(63,.sl 1 r.homes.length (λxi=>AV.int (((Av r (Aj p r c k)).getD xi 0:Nat):Int))),(64,.int (r.homes.length:Int)),(65,.int (y:Int))],[(50,.vec 52 3 n2 (λxi=>Bc ((It p r c k y).getD xi Rl.none)))],61,99⟩)) r.homes.length ⟨0,n,Nat.zero_le _,rfl,⟨by rw[Xl];omega,ω⟩,⟨hk0,κ⟩⟩ ?_))))
       rintro _ _ ⟨y,n2,hyn,rfl,hFy,(⟨hy0,rfl⟩)⟩ J11 hJ11
       ·
        refine Ae 6 (Em 66 ((y:Int)<(r.homes.length:Int)) (λhx32 hx32d=>?_) (λhx32 hx32d=>?_))
        ·
         refine Ae 7 (Gg y r.homes.length (Ae 4 ?_))
         have hom:=Lk r (Aj p r c k) (x:=y) ω
         refine Mr 50 52 3 n2 (λxi=>Bc ((It p r c k y).getD xi Rl.none)) (λxi=>Bc ((Cl p r c k y 0).getD xi Rl.none)) (λx9 hx9=>by rw[Oq]) (Ae 9 (Wn [3,4,5,8,10,15,20,29,30,31,63,64,65,70,71,72] (λm s=>∃u n3,u<=r.rises.length/\m=r.rises.length-u/\(n3=(Cl p r c k y u).length/\n3<=k*128+y*16+u)/\((0<n3)/\s=⟨[(3,.elt 3 (λxi=>[Dp p.names,Fh p.homes,Ek p.acts].getD (0+xi) .top)),(4,Kt r),(5,.elt 2 (λxi=>[.int c.craft,.int c.act].getD (0+xi) .top)),(8,.osl 50 3 n3),(10,.int ((r.waits).getD k 0)),(15,My (Aj p r c k)),(20,.int (((Av r (Aj p r c k)).getD y 0:Nat):Int)),(29,Bq r.waits),(30,.int (r.waits.length:Int)),(31,.int (k:Int)),(63,.sl 1 r.homes.length (λxi=>AV.int (((Av r (Aj p r c k)).getD xi 0:Nat):Int))),(64,.int (r.homes.length:Int)),(65,.int (y:Int)),(70,Bq r.rises),(71,.int (r.rises.length:Int)),(72,.int (u:Int))],[(50,.vec 52 3 n3 (λxi=>Bc ((Cl p r c k y u).getD xi Rl.none)))],61,99⟩)) r.rises.length ⟨0,n2,Nat.zero_le _,rfl,⟨by rw[Oq];omega,ω⟩,⟨hy0,κ⟩⟩ ?_))
         rintro _ _ ⟨u,n3,hun,rfl,hFu,(⟨hu0,rfl⟩)⟩ J12 hJ12
         ·
          refine Ae 6 (Em 73 ((u:Int)<(r.rises.length:Int)) (λhx33 hx33d=>?_) (λhx33 hx33d=>?_))
          ·
           refine Ae 5 ?_
           have hris:=hg.2.2.2.2.2.2 u ω
           refine Ae 2 (Gg u r.rises.length (Ae 9 (Gg ((Av r (Aj p r c k)).getD y 0) r.homes.length (Ae 2 (Df (Jq (r.homes.getD ((Av r (Aj p r c k)).getD y 0) V3.zero) (r.rises.getD u 0) (hg.2.2.1 _ hom).1 ⟨hris.1,hris.2.1⟩) (Ae 1 (kK 83 (Hk (r.homes.getD ((Av r (Aj p r c k)).getD y 0) V3.zero) (r.rises.getD u 0)) (λhx34=>?_) (λhx34=>?_))))))))
           ·
            refine Ae 2 (Df (Jq (Aj p r c k) (r.rises.getD u 0) hV ⟨hris.1,hris.2.1⟩) (Ae 3 (kK 87 (Hk (Aj p r c k) (r.rises.getD u 0)) (λhx35=>?_) (λhx35=>?_))))
            ·
             exact Ae 7 (Bx (.osl 61 3 1) (.new 61 (.vec 52 3 1 (λ_=> .lit (.agg #[.int .i64 (((Av r (Aj p r c k)).getD y 0:Nat):Int),.int .i64 ((r.waits).getD k 0),.int .i64 ((r.rises).getD u 0)])))) (Ak 45 1 #[(0,(.tmp 92))] κ underlying45 3 sizeOf52 _ zeroValue52 κ β β β 61 [.int (((Av r (Aj p r c k)).getD y 0:Nat):Int),.int ((r.waits).getD k 0),.int ((r.rises).getD u 0)] κ (λ_=> .lit (.agg #[.int .i64 (((Av r (Aj p r c k)).getD y 0:Nat):Int),.int .i64 ((r.waits).getD k 0),.int .i64 ((r.rises).getD u 0)])) κ) (Bx (.osl 62 3 (n3+1)) (.grow2 50 61 62 (.vec 52 3 (n3+1) (λxi=>Bc ((Cl p r c k y (u+1)).getD xi Rl.none)))) (Ck (.tmp 88) (.tmp 93) 45 κ underlying45 3 24 (.agg #[.int .i64 0,.int .i64 0,.int .i64 0]) κ κ δ n3 1 ω (λxi=>Bc ((Cl p r c k y u).getD xi Rl.none)) (λ_=> .lit (.agg #[.int .i64 (((Av r (Aj p r c k)).getD y 0:Nat):Int),.int .i64 ((r.waits).getD k 0),.int .i64 ((r.rises).getD u 0)])) (λxi=>Bc ((Cl p r c k y (u+1)).getD xi Rl.none)) 62 ω (by unfold maxLen;omega) (λi hi=>by show Bc _=Bc _;rw[Dy hx34 hx35,Jl,if_pos ω]) (λi hi=>by(obtain rfl:i=0:=(ω));show Bc _=Bc ⟨(((Av r (Aj p r c k)).getD y 0:Nat):Int),r.waits.getD k 0,r.rises.getD u 0⟩;rw[Dy hx34 hx35,Jl,if_neg ω,show n3+0-(Cl p r c k y u).length=0 by omega];rfl) (λi hi j hj=>match j,hj with|0,_=>rfl|1,_=>rfl|2,_=>rfl|_+3,h=>absurd h ω) 50 κ κ 61 52 κ κ) (Ae 5 (Dm ((u:Int)+1) ((u+1:Nat):Int) (Ae 2 (Fu [3,4,5,8,10,15,20,29,30,31,63,64,65,70,71,72] [(62,50)] 61 0 hA0 [(52,3,1,(λ_=> .lit (.agg #[.int .i64 (((Av r (Aj p r c k)).getD y 0:Nat):Int),.int .i64 ((r.waits).getD k 0),.int .i64 ((r.rises).getD u 0)]))),(52,3,n3+1,(λxi=>Bc ((Cl p r c k y (u+1)).getD xi Rl.none)))] ⟨(Fp λ_ _=>rfl),(Fp λ_ _=>rfl),trivial⟩ (hJ12 _ _ (by omega:r.rises.length-(u+1)<r.rises.length-u) ⟨u+1,n3+1,ω,rfl,⟨by rw[Dy hx34 hx35,List.length_append,List.length_singleton];omega,ω⟩,⟨ω,rfl⟩⟩)))))))
            ·
             exact Ae 5 (Dm ((u:Int)+1) ((u+1:Nat):Int) (Ae 2 (Mr 50 52 3 n3 (λxi=>Bc ((Cl p r c k y u).getD xi Rl.none)) (λxi=>Bc ((Cl p r c k y (u+1)).getD xi Rl.none)) (λx9 hx9=>by rw[Cf (.inr hx35)]) (Ja [3,4,5,8,10,15,20,29,30,31,63,64,65,70,71,72] (hJ12 _ _ (by omega:r.rises.length-(u+1)<r.rises.length-u) ⟨u+1,n3,ω,rfl,⟨by rw[Cf (.inr hx35)];omega,ω⟩,⟨ω,rfl⟩⟩)))))
           ·
            exact Ae 11 (Dm ((u:Int)+1) ((u+1:Nat):Int) (Ae 2 (Mr 50 52 3 n3 (λxi=>Bc ((Cl p r c k y u).getD xi Rl.none)) (λxi=>Bc ((Cl p r c k y (u+1)).getD xi Rl.none)) (λx9 hx9=>by rw[Cf (.inl hx34)]) (Ja [3,4,5,8,10,15,20,29,30,31,63,64,65,70,71,72] (hJ12 _ _ (by omega:r.rises.length-(u+1)<r.rises.length-u) ⟨u+1,n3,ω,rfl,⟨by rw[Cf (.inl hx34)];omega,ω⟩,⟨ω,rfl⟩⟩)))))
          ·
           exact Ae 7 (Mr 50 52 3 n3 (λxi=>Bc ((Cl p r c k y u).getD xi Rl.none)) (λxi=>Bc ((It p r c k (y+1)).getD xi Rl.none)) (λx9 hx9=>by rw[<-Kl,show r.rises.length=u by omega]) (Ae 1 (Dm ((y:Int)+1) ((y+1:Nat):Int) (Ae 2 (Ja [3,4,5,8,10,15,29,30,31,63,64,65] (hJ11 _ _ (by omega:r.homes.length-(y+1)<r.homes.length-y) ⟨y+1,n3,ω,rfl,⟨by rw[<-Kl,show r.rises.length=u by omega];omega,ω⟩,⟨ω,rfl⟩⟩))))))
        ·
         exact Ae 7 (Mr 50 52 3 n2 (λxi=>Bc ((It p r c k y).getD xi Rl.none)) (λxi=>Bc ((Gx p r c (k+1)).getD xi Rl.none)) (λx9 hx9=>by rw[<-Ot hx23,show r.homes.length=y by omega]) (Ae 1 (Dm ((k:Int)+1) ((k+1:Nat):Int) (Ae 2 (Fu [3,4,5,8,29,30,31] [(50,50)] 51 0 hA0 [(52,3,n2,(λxi=>Bc ((Gx p r c (k+1)).getD xi Rl.none)))] ⟨(Fp λ_ _=>rfl),trivial⟩ (hJ1 _ _ (by omega:r.waits.length-(k+1)<r.waits.length-k) ⟨k+1,n2,ω,rfl,⟨by rw[<-Ot hx23,show r.homes.length=y by omega];omega,ω⟩,(.inr ⟨ω,rfl⟩)⟩))))))
   ·
    exact Df (Us hp hg.1 hcs hg.2 ω hx23) (Ae 27 (Dm ((k:Int)+1) ((k+1:Nat):Int) (Ae 2 (Mr 50 52 3 n (λxi=>Bc ((Gx p r c k).getD xi Rl.none)) (λxi=>Bc ((Gx p r c (k+1)).getD xi Rl.none)) (λx9 hx9=>by rw[Tb hx23]) (Fu [3,4,5,8,29,30,31] [(50,50)] 51 0 hA0 [(52,3,n,(λxi=>Bc ((Gx p r c (k+1)).getD xi Rl.none)))] ⟨(Fp λ_ _=>rfl),trivial⟩ (hJ1 _ _ (by omega:r.waits.length-(k+1)<r.waits.length-k) ⟨k+1,n,ω,rfl,⟨by rw[Tb hx23];omega,ω⟩,(.inr ⟨ω,rfl⟩)⟩))))))
  ·
   exact Ae 13 (Yw 50 [6] 52 3 n (λxi=>Bc ((Gx p r c k).getD xi Rl.none)) (Fp λ_ _=>rfl) (Ae 1 (Fz (.tup [.sl 3 n (λxi=>Bc ((Gx p r c k).getD xi Rl.none)),.int 0]) (by have hke:k=r.waits.length:=(ω);subst hke;rw[uS,if_neg (by rw[Kq];omega),hFk.1];rfl))))
abbrev Aer (p:Nat->Int) (m:Nat) (a b d:Int):Nat->Int:=cN p m a b d (m-1)
theorem kV (p:Nat->Int) (a b d:Int) (ha:Cv a) (hb:Cv b) (hd:Cv d) (hdp:0<d):AF Tryz.prog 158 [Bg 0 p,WA a,WA b,WA d] (.lit (.tuple #[.slice none 0 0,.int .i64 0])):=by
 refine Ch func158 rfl λB D0 hA0=>?_
 exact Ae 13 (Df (Pu 0 p ω (λi hi=>absurd hi (Nat.not_lt_zero i)) (.inl rfl)) (Ae 3 (Df (Jr _ (Hy ha)) (Ae 4 (Df (Jr _ (Hy hb)) (Ae 4 (Df (Jr _ (Hy hd)) (Ae 11 (Df (Uu d (Hy hd)) (Ae 3 (Kf 37 (decide (d.sign<=0)) false (decide_eq_false (by rw[Int.sign_eq_one_of_pos hdp];decide)) (Ae 20 (Gt)))))))))))))
theorem VR.nil_poly {E:Bo} {v:Value} {c:Nat->Int} {e:Int} (h:VR E (.lit (.tuple #[.slice none 0 0,.int .i64 e])) v):VR E (.tup [Bg 0 c,.int e]) v:=by
 have:=h.lit_inv
 subst this
 refine .tup _ _ _ rfl λi hi=>?_
 match i,hi with
 |0,_=>exact .sl0 _ _ _ _ _
 |1,_=>exact .lit _ _
theorem Tv (m:Nat) (p:Nat->Int) (a b d:Int) (hm:m<=6) (hp:∀i,Cv (p i)) (hl:m=0\/p (m-1)≠0) (ha:Cv a) (hb:Cv b) (hd:Cv d) (hdp:0<d):AF Tryz.prog 158 [Bg m p,WA a,WA b,WA d] (.tup [Bg (Ft (Aer p m a b d) m) (Aer p m a b d),.int 0]):=by
 cases m with
 |zero=>exact sR (kV p a b d ha hb hd hdp) rfl (λ_ _ _ _ h=>h) λE v hv=>hv.nil_poly
 |succ k=>exact kW k p a b d ω hp (hl.resolve_left ω) ha hb hd hdp
abbrev cZ (l:List Int):Nat:=Ft (Zc l) l.length
abbrev nP (l:List Int) (a b d:Int):Nat->Int:=Aer (Zc l) (cZ l) a b d
abbrev oc (l:List Int) (a b d:Int) (i:Nat):Int:=nP l a b d i*d^(6-l.length)
abbrev on (l:List Int) (a b d:Int):Nat:=Ft (oc l a b d) (Ft (nP l a b d) (cZ l))
theorem jI {l:List Int} (h:∀i,Cv (l.getD i 0)) (hn:l.length<=6) {a b d:Int} (ha:Cv a) (hb:Cv b) (hd:Cv d) (i:Nat):Bd 500 (nP l a b d i):=by
 have:cZ l<=l.length:=Hu (Zc l) l.length
 exact(lY h ha hb hd _ i).mono ω
theorem fF {l:List Int} (h:∀i,Cv (l.getD i 0)) (hn:l.length<=6) {a b d:Int} (ha:Cv a) (hb:Cv b) (hd:Cv d) (i:Nat):Bd 1000 (oc l a b d i):=
 ((jI h hn ha hb hd i).mul ((Bd.int hd.1 hd.2).pow (6-l.length))).mono ω
theorem Ab0 (l:List Int) (a b d:Int) (hn:l.length<=6):on l a b d<=6:=Nat.le_trans (Hu _ _) (Nat.le_trans (Hu _ _) (Nat.le_trans (Hu _ _) hn))
abbrev Uj (l:List Int) (a b d:Int):AV:=Bg (on l a b d) (oc l a b d)
theorem kX (s:Sg) (a b d:Int) (hs:Ty s) (hx0:0<s.x.length) (hx6:s.x.length<=6) (hy0:0<s.y.length) (hy6:s.y.length<=6) (hz0:0<s.z.length) (hz6:s.z.length<=6) (ha:Cv a) (hb:Cv b) (hd:Cv d) (hdp:0<d):AF Tryz.prog 141 [Cw s,.int a,.int b,.int d] (.agg [Uj s.x a b d,Uj s.y a b d,Uj s.z a b d]):=by
 have hlx:cZ s.x<=s.x.length:=Hu (Zc s.x) s.x.length
 have hly:cZ s.y<=s.y.length:=Hu (Zc s.y) s.y.length
 have hlz:cZ s.z<=s.z.length:=Hu (Zc s.z) s.z.length
 refine Ch func141 rfl λB D0 hA0=>?_
 exact Ae 10 (Df (sL s) (Ae 4 (zT 3 (Ae 14 (Bx (Bn s.x) .none (Dt 147 (.tmp 14) (.tmp 15) κ underlying147 1 sizeOf23 0 false isAgg23 [Bn s.x,Bn s.y,Bn s.z] 0 κ κ ω δ β δ (Bn s.x) κ) (Ae 7 (Df (Wo s.x hx0 ω hs.x) (Ae 11 (Df (Gu a ha.1 ha.2) (Ae 1 (Df (Gu b hb.1 hb.2) (Ae 1 (Df (Gu d hd.1 hd.2) (Df (Tv (cZ s.x) (Zc s.x) a b d ω hs.x (Jo _ _) ha hb hd hdp) (Ae 12 (Dm ((6:Int)-(s.x.length:Int)) ((6-s.x.length:Nat):Int) (Df (Gm d (6-s.x.length) hd.1 hd.2 ω (λj hj=>Eu hd ω)) (Df (aA (Ft (nP s.x a b d) (cZ s.x)) (nP s.x a b d) (d^(6-s.x.length)) (by have:=Hu (nP s.x a b d) (cZ s.x);omega) (λi _=>(jI hs.x hx6 ha hb hd i).fit ω) (Jo _ _) (Eu hd ω) (λi _=>(fF hs.x hx6 ha hb hd i).fit ω)) (Ae 3 (Bx (.ptr 1 0) .none (Cb 203 (.tmp 8) (.tmp 36) κ underlying203 1 0 1 0 0 κ κ sizeOf202 δ ω δ) (Ae 5 (Nn (.int .i64 1) (.int .i64 1) (Ae 17 (Bx (Bn s.y) .none (Dt 147 (.tmp 14) (.tmp 15) κ underlying147 1 sizeOf23 1 false isAgg23 [Bn s.x,Bn s.y,Bn s.z] 1 κ κ ω δ β δ (Bn s.y) κ) (Ae 7 (Df (Wo s.y hy0 ω hs.y) (Ae 11 (Df (Gu a ha.1 ha.2) (Ae 1 (Df (Gu b hb.1 hb.2) (Ae 1 (Df (Gu d hd.1 hd.2) (Df (Tv (cZ s.y) (Zc s.y) a b d ω hs.y (Jo _ _) ha hb hd hdp) (Ae 12 (Dm ((6:Int)-(s.y.length:Int)) ((6-s.y.length:Nat):Int) (Df (Gm d (6-s.y.length) hd.1 hd.2 ω (λj hj=>Eu hd ω)) (Df (aA (Ft (nP s.y a b d) (cZ s.y)) (nP s.y a b d) (d^(6-s.y.length)) (by have:=Hu (nP s.y a b d) (cZ s.y);omega) (λi _=>(jI hs.y hy6 ha hb hd i).fit ω) (Jo _ _) (Eu hd ω) (λi _=>(fF hs.y hy6 ha hb hd i).fit ω)) (Ae 3 (Bx (.ptr 1 1) .none (Cb 203 (.tmp 8) (.tmp 36) κ underlying203 1 0 1 1 1 κ κ sizeOf202 δ ω δ) (Ae 5 (Nn (.int .i64 2) (.int .i64 2) (Ae 17 (Bx (Bn s.z) .none (Dt 147 (.tmp 14) (.tmp 15) κ underlying147 1 sizeOf23 2 false isAgg23 [Bn s.x,Bn s.y,Bn s.z] 2 κ κ ω δ β δ (Bn s.z) κ) (Ae 7 (Df (Wo s.z hz0 ω hs.z) (Ae 11 (Df (Gu a ha.1 ha.2) (Ae 1 (Df (Gu b hb.1 hb.2) (Ae 1 (Df (Gu d hd.1 hd.2) (Df (Tv (cZ s.z) (Zc s.z) a b d ω hs.z (Jo _ _) ha hb hd hdp) (Ae 12 (Dm ((6:Int)-(s.z.length:Int)) ((6-s.z.length:Nat):Int) (Df (Gm d (6-s.z.length) hd.1 hd.2 ω (λj hj=>Eu hd ω)) (Df (aA (Ft (nP s.z a b d) (cZ s.z)) (nP s.z a b d) (d^(6-s.z.length)) (by have:=Hu (nP s.z a b d) (cZ s.z);omega) (λi _=>(jI hs.z hz6 ha hb hd i).fit ω) (Jo _ _) (Eu hd ω) (λi _=>(fF hs.z hz6 ha hb hd i).fit ω)) (Ae 3 (Bx (.ptr 1 2) .none (Cb 203 (.tmp 8) (.tmp 36) κ underlying203 1 0 1 2 2 κ κ sizeOf202 δ ω δ) (Ae 5 (Nn (.int .i64 3) (.int .i64 3) (Ae 22 (Gt))))))))))))))))))))))))))))))))))))))))))))))))))))))))))))))
def gF (c:Nat->Int) (g:Int):Nat->Int
 |0=>g
 |k+1=>(Nat.gcd (gF c g k).natAbs (c k).natAbs:Int)
theorem tS {c:Nat->Int} {g:Int} {n:Nat} (hg:Bd 1000 g) (hc:∀i,i<n->Bd 1000 (c i)):∀k,k<=n->Bd 1000 (gF c g k)
 |0,_=>hg
 |k+1,h=>(tS hg hc k ω).gcd (hc k ω)
theorem iZ {c:Nat->Int} {g:Int} (hg:0<g):∀k,0<gF c g k
 |0=>hg
 |k+1=>by
  have h1:=iZ (c:=c) hg k
  have:0<Nat.gcd (gF c g k).natAbs (c k).natAbs:=Nat.gcd_pos_of_pos_left _ ω
  rw[gF];omega
def iR (z:Int):Int:=if -9223372036854775808<=z/\z<=9223372036854775807 then z else 0
def iE (z:Int):Int:=if -9223372036854775808<=z/\z<=9223372036854775807 then 0 else 3
theorem Afn {z:Int} (h:Cv z):iR z=z:=if_pos h
theorem Mu (z:Int) (h:Fm z):AF Tryz.prog 68 [WA z] (.lit (.tuple #[.int .i64 (iR z),.int .i64 (iE z)])):=Ix (vs:=[_]) λw=>by
 unfold iR iE
 by_cases h0: -9223372036854775808<=z/\z<=9223372036854775807
 rw[if_pos h0,if_pos h0];exact Acg z w h0.1 h0.2
 rw[if_neg h0,if_neg h0];exact pH z w h h0
theorem lJ (x y:Int) (hx:Fm x) (hy:Fm y):AF Tryz.prog 147 [WA x,WA y] (.int (x-y).sign):=Ix (vs:=[_,_]) λw=>Wj x y w hx hy
def Jm (n:Nat) (c:Nat->Int) (g:Int) (i:Nat):Int:=if i<n then iR (c i/g) else 0
def gM (nx ny nz:Nat) (cx cy cz:Nat->Int) (o:Int):Int:=gF cz (gF cy (gF cx o nx) ny) nz
abbrev sB:Cp:= .box 81 [.int 0,.int 0,.int 0,.lit (.slice none 0 0),.lit (.slice none 0 0),.lit (.slice none 0 0)]
def Yf (f t:Int) (nx ny nz:Nat) (cx cy cz:Nat->Int) (o:Int):AV:=if (0:Int)<(o/gM nx ny nz cx cy cz o-4294967296).sign then .lit (.tuple #[.agg #[.int .i64 f,.int .i64 t,.int .i64 0,.slice none 0 0,.slice none 0 0,.slice none 0 0],.bool false]) else .tup [.agg [.int f,.int t,.int (iR (o/gM nx ny nz cx cy cz o)),.sl 1 (max nx 1) (λxi=> .int (Jm nx cx (gM nx ny nz cx cy cz o) xi)),.sl 1 (max ny 1) (λxi=> .int (Jm ny cy (gM nx ny nz cx cy cz o) xi)),.sl 1 (max nz 1) (λxi=> .int (Jm nz cz (gM nx ny nz cx cy cz o) xi))],.bool true]
theorem Acw (f t:Int) (nx ny nz:Nat) (cx cy cz:Nat->Int) (o:Int) (hnx:nx<=6) (hny:ny<=6) (hnz:nz<=6) (hx:∀i,i<nx->Bd 1000 (cx i)) (hy:∀i,i<ny->Bd 1000 (cy i)) (hz:∀i,i<nz->Bd 1000 (cz i)) (bo:Bd 1000 o) (ho:0<o):AF Tryz.prog 140 [.int f,.int t,.agg [Bg nx cx,Bg ny cy,Bg nz cz],WA o] (Yf f t nx ny nz cx cy cz o):=by
 have b0:=bo
 have bx:=tS b0 hx
 have b1:=bx nx (Nat.le_refl _)
 have bY:=tS b1 hy
 have b2:=bY ny (Nat.le_refl _)
 have bz:=tS b2 hz
 have bG:Bd 1000 (gM nx ny nz cx cy cz o):=bz nz (Nat.le_refl _)
 have pG:0<gM nx ny nz cx cy cz o:=iZ (iZ (iZ ho nx) ny) nz
 have hk:=Gu 4294967296 δ δ
 have h32:Fm 4294967296:=Jk δ δ
 refine Ch func140 rfl λB D0 hA0=>?_
 refine Ae 23 (zT 3 (Ae 13 (Bx (Bg nx cx) .none (Dt 203 (.tmp 24) (.tmp 25) κ underlying203 1 sizeOf202 0 false isAgg202 [Bg nx cx,Bg ny cy,Bg nz cz] 0 κ κ ω δ β δ (Bg nx cx) κ) (Ae 11 (zJ (keep:=[0,1,6,7,8,10,24,25,28,29,30]) nx (λk=>⟨[(0,.int f),(1,.int t),(6,.ptr 0 0),(7,.ptr 1 0),(8,.ptr 2 0),(10,.ptr 3 0),(24,.agg [Bg nx cx,Bg ny cy,Bg nz cz]),(25,.int 0),(28,Bg nx cx),(29,.int (nx:Int)),(30,.int (k:Int))],[(0,.box 203 [Bg nx cx,Bg ny cy,Bg nz cz]),(1,wB o),(2,sB),(3,wB (gF cx o k))],4,98⟩) (λk hk J1 hJ1=>?_) ?_)))))
 ·
  exact Ae 3 (Kf 31 (decide ((k:Int)<(nx:Int))) true (decide_eq_true ω) (Ae 10 (Gg k nx (Ae 8 (Df (Sp _ _ ((bx k ω).fit ω) ((hx k ω).fit ω)) (Ae 5 (Dm ((k:Int)+1) ((k+1:Nat):Int) (Ae 2 (Fu [0,1,6,7,8,10,24,25,28,29,30] [(0,0),(1,1),(2,2),(3,3)] 4 0 hA0 [] trivial hJ1)))))))))
 ·
  refine Ae 3 (Kf 31 (decide ((nx:Int)<(nx:Int))) false (decide_eq_false ω) (Ae 11 (Nn (.int .i64 1) (.int .i64 1) (Ae 16 (Bx (Bg ny cy) .none (Dt 203 (.tmp 24) (.tmp 25) κ underlying203 1 sizeOf202 1 false isAgg202 [Bg nx cx,Bg ny cy,Bg nz cz] 1 κ κ ω δ β δ (Bg ny cy) κ) (Ae 11 (zJ (keep:=[0,1,6,7,8,10,24,25,28,29,30]) ny (λk=>⟨[(0,.int f),(1,.int t),(6,.ptr 0 0),(7,.ptr 1 0),(8,.ptr 2 0),(10,.ptr 3 0),(24,.agg [Bg nx cx,Bg ny cy,Bg nz cz]),(25,.int 1),(28,Bg ny cy),(29,.int (ny:Int)),(30,.int (k:Int))],[(0,.box 203 [Bg nx cx,Bg ny cy,Bg nz cz]),(1,wB o),(2,sB),(3,wB (gF cy (gF cx o nx) k))],4,98⟩) (λk hk J2 hJ2=>?_) ?_)))))))
  ·
   exact Ae 3 (Kf 31 (decide ((k:Int)<(ny:Int))) true (decide_eq_true ω) (Ae 10 (Gg k ny (Ae 8 (Df (Sp _ _ ((bY k ω).fit ω) ((hy k ω).fit ω)) (Ae 5 (Dm ((k:Int)+1) ((k+1:Nat):Int) (Ae 2 (Fu [0,1,6,7,8,10,24,25,28,29,30] [(0,0),(1,1),(2,2),(3,3)] 4 0 hA0 [] trivial hJ2)))))))))
  ·
   refine Ae 3 (Kf 31 (decide ((ny:Int)<(ny:Int))) false (decide_eq_false ω) (Ae 11 (Nn (.int .i64 2) (.int .i64 2) (Ae 16 (Bx (Bg nz cz) .none (Dt 203 (.tmp 24) (.tmp 25) κ underlying203 1 sizeOf202 2 false isAgg202 [Bg nx cx,Bg ny cy,Bg nz cz] 2 κ κ ω δ β δ (Bg nz cz) κ) (Ae 11 (zJ (keep:=[0,1,6,7,8,10,24,25,28,29,30]) nz (λk=>⟨[(0,.int f),(1,.int t),(6,.ptr 0 0),(7,.ptr 1 0),(8,.ptr 2 0),(10,.ptr 3 0),(24,.agg [Bg nx cx,Bg ny cy,Bg nz cz]),(25,.int 2),(28,Bg nz cz),(29,.int (nz:Int)),(30,.int (k:Int))],[(0,.box 203 [Bg nx cx,Bg ny cy,Bg nz cz]),(1,wB o),(2,sB),(3,wB (gF cz (gF cy (gF cx o nx) ny) k))],4,98⟩) (λk hk J3 hJ3=>?_) ?_)))))))
   ·
    exact Ae 3 (Kf 31 (decide ((k:Int)<(nz:Int))) true (decide_eq_true ω) (Ae 10 (Gg k nz (Ae 8 (Df (Sp _ _ ((bz k ω).fit ω) ((hz k ω).fit ω)) (Ae 5 (Dm ((k:Int)+1) ((k+1:Nat):Int) (Ae 2 (Fu [0,1,6,7,8,10,24,25,28,29,30] [(0,0),(1,1),(2,2),(3,3)] 4 0 hA0 [] trivial hJ3)))))))))
   ·
    refine Ae 3 (Kf 31 (decide ((nz:Int)<(nz:Int))) false (decide_eq_false ω) (Ae 11 (Nn (.int .i64 3) (.int .i64 3) (Ae 28 (Df (Kh _ _ (bo.fit ω) (bG.fit ω) ω) (Ae 6 (He [(1,_,.none),(2,_,.none)] [6,8,10,15,16,48] ⟨Eg hk,Eg (lJ (o/(gM nx ny nz cx cy cz o)) 4294967296 ((bo.div _).fit ω) h32),trivial⟩ (Ae 1 (Em 48 ((0:Int)<(o/gM nx ny nz cx cy cz o-4294967296).sign) (λhx1 hx1d=>?_) (λhx1 hx1d=>?_))))))))))
    ·
     exact Ae 10 (Fz (.lit (.tuple #[.agg #[.int .i64 f,.int .i64 t,.int .i64 0,.slice none 0 0,.slice none 0 0,.slice none 0 0],.bool false])) (show (.lit _:AV)=_ by unfold Yf;rw[if_pos hx1d]))
    ·
     refine Ae 6 (Df (Mu (o/(gM nx ny nz cx cy cz o)) ((bo.div _).fit ω)) (Ae 18 (zT 3 (Ae 9 (vjn ⟨[(6,.ptr 0 0),(8,.ptr 2 0),(10,.ptr 3 0),(15,.ptr 4 0),(59,.agg [.ptr 4 3,.ptr 4 4,.ptr 4 5]),(60,.int 0)],[(0,.box 203 [Bg nx cx,Bg ny cy,Bg nz cz]),(1,wB o),(2,sB),(3,wB (gM nx ny nz cx cy cz o)),(4,.box 81 [.int f,.int t,.int (iR (o/(gM nx ny nz cx cy cz o))),.sl 1 (max nx 1) (λxi=> .int (Jm nx cx (gM nx ny nz cx cy cz o) xi)),.lit (.slice none 0 0),.lit (.slice none 0 0)]),(5,wB (o/(gM nx ny nz cx cy cz o)))],30,98⟩ ?_ (λJ4 hJ4=>?_))))))
     ·
      refine Ae 1 (Nn (.int .i64 1) (.int .i64 1) (Ae 12 (vjn ⟨[(6,.ptr 0 0),(8,.ptr 2 0),(10,.ptr 3 0),(15,.ptr 4 0),(59,.agg [.ptr 4 3,.ptr 4 4,.ptr 4 5]),(60,.int 1)],[(0,.box 203 [Bg nx cx,Bg ny cy,Bg nz cz]),(1,wB o),(2,sB),(3,wB (gM nx ny nz cx cy cz o)),(4,.box 81 [.int f,.int t,.int (iR (o/(gM nx ny nz cx cy cz o))),.sl 1 (max nx 1) (λxi=> .int (Jm nx cx (gM nx ny nz cx cy cz o) xi)),.sl 1 (max ny 1) (λxi=> .int (Jm ny cy (gM nx ny nz cx cy cz o) xi)),.lit (.slice none 0 0)]),(5,wB (o/(gM nx ny nz cx cy cz o)))],32,98⟩ ?_ (λJ5 hJ5=>?_))))
      ·
       refine Ae 1 (Nn (.int .i64 2) (.int .i64 2) (Ae 12 (vjn ⟨[(6,.ptr 0 0),(8,.ptr 2 0),(10,.ptr 3 0),(15,.ptr 4 0),(59,.agg [.ptr 4 3,.ptr 4 4,.ptr 4 5]),(60,.int 2)],[(0,.box 203 [Bg nx cx,Bg ny cy,Bg nz cz]),(1,wB o),(2,sB),(3,wB (gM nx ny nz cx cy cz o)),(4,.box 81 [.int f,.int t,.int (iR (o/(gM nx ny nz cx cy cz o))),.sl 1 (max nx 1) (λxi=> .int (Jm nx cx (gM nx ny nz cx cy cz o) xi)),.sl 1 (max ny 1) (λxi=> .int (Jm ny cy (gM nx ny nz cx cy cz o) xi)),.sl 1 (max nz 1) (λxi=> .int (Jm nz cz (gM nx ny nz cx cy cz o) xi))]),(5,wB (o/(gM nx ny nz cx cy cz o)))],34,98⟩ ?_ (λJ6 hJ6=>?_))))
       ·
        exact Ae 1 (Nn (.int .i64 3) (.int .i64 3) (Ae 23 (Fz (.tup [.agg [.int f,.int t,.int (iR (o/(gM nx ny nz cx cy cz o))),.sl 1 (max nx 1) (λxi=> .int (Jm nx cx (gM nx ny nz cx cy cz o) xi)),.sl 1 (max ny 1) (λxi=> .int (Jm ny cy (gM nx ny nz cx cy cz o) xi)),.sl 1 (max nz 1) (λxi=> .int (Jm nz cz (gM nx ny nz cx cy cz o) xi))],.bool true]) (show (.tup [.agg [_,_,_,_,_,_],_]:AV)=_ by unfold Yf;rw[if_neg hx1d]))))
       ·
        refine Ae 4 (Bx (.ptr 4 5) .none (Dt 222 (.tmp 59) (.tmp 60) κ underlying222 1 sizeOf221 2 false isAgg221 [.ptr 4 3,.ptr 4 4,.ptr 4 5] 2 κ κ ω δ β δ (.ptr 4 5) κ) (Ae 8 (Bx (.ptr 0 2) .none (Cb 203 (.tmp 6) (.tmp 64) κ underlying203 0 0 1 2 2 κ κ sizeOf202 δ ω δ) (Ae 6 (Wn [6,8,10,15,18,59,60,66,67,68] (λm s=>∃k,k<=nz/\m=nz-k/\True/\((k=0/\s=⟨[(6,.ptr 0 0),(8,.ptr 2 0),(10,.ptr 3 0),(15,.ptr 4 0),(18,.ptr 4 5),(59,.agg [.ptr 4 3,.ptr 4 4,.ptr 4 5]),(60,.int 2),(66,Bg nz cz),(67,.int (nz:Int)),(68,.int ((0:Nat):Int))],[(0,.box 203 [Bg nx cx,Bg ny cy,Bg nz cz]),(1,wB o),(2,sB),(3,wB (gM nx ny nz cx cy cz o)),(4,.box 81 [.int f,.int t,.int (iR (o/(gM nx ny nz cx cy cz o))),.sl 1 (max nx 1) (λxi=> .int (Jm nx cx (gM nx ny nz cx cy cz o) xi)),.sl 1 (max ny 1) (λxi=> .int (Jm ny cy (gM nx ny nz cx cy cz o) xi)),.lit (.slice none 0 0)]),(5,wB (o/(gM nx ny nz cx cy cz o)))],32,98⟩)\/(0<k/\s=⟨[(6,.ptr 0 0),(8,.ptr 2 0),(10,.ptr 3 0),(15,.ptr 4 0),(18,.ptr 4 5),(59,.agg [.ptr 4 3,.ptr 4 4,.ptr 4 5]),(60,.int 2),(66,Bg nz cz),(67,.int (nz:Int)),(68,.int (k:Int))],[(0,.box 203 [Bg nx cx,Bg ny cy,Bg nz cz]),(1,wB o),(2,sB),(3,wB (gM nx ny nz cx cy cz o)),(4,.box 81 [.int f,.int t,.int (iR (o/(gM nx ny nz cx cy cz o))),.sl 1 (max nx 1) (λxi=> .int (Jm nx cx (gM nx ny nz cx cy cz o) xi)),.sl 1 (max ny 1) (λxi=> .int (Jm ny cy (gM nx ny nz cx cy cz o) xi)),.osl 20 1 k]),(5,wB (o/(gM nx ny nz cx cy cz o))),(20,.vec 3 1 k (λxi=> .int (Jm nz cz (gM nx ny nz cx cy cz o) xi)))],21,98⟩))) nz ⟨0,Nat.zero_le _,rfl,trivial,.inl ⟨rfl,κ⟩⟩ ?_)))))
        rintro _ _ ⟨k,hkn,rfl,hFk,(⟨hk0,rfl⟩|⟨hk0,rfl⟩)⟩ J7 hJ7
        ·
         subst hk0
         refine Ae 6 (Em 69 (((0:Nat):Int)<(nz:Int)) (λhx2 hx2d=>?_) (λhx2 hx2d=>?_))
         ·
          exact Ae 7 (Gg 0 nz (Ae 9 (Df (Kh (cz 0) (gM nx ny nz cx cy cz o) ((hz _ ω).fit ω) (bG.fit ω) ω) (Df (Mu (cz 0/(gM nx ny nz cx cy cz o)) (((hz _ ω).div _).fit ω)) (Ae 13 (Bx (.osl 33 1 1) (.new 33 (.vec 3 1 1 (λ_=> .int (iR (cz 0/(gM nx ny nz cx cy cz o)))))) (Ak 23 1 #[(0,(.tmp 83))] κ underlying23 1 sizeOf3 _ zeroValue3 κ β β β 33 [.int (iR (cz 0/(gM nx ny nz cx cy cz o)))] κ (λ_=> .int (iR (cz 0/(gM nx ny nz cx cy cz o)))) κ) (Bx (.osl 34 1 1) (.newr 33 34 (.vec 3 1 1 (λxi=> .int (Jm nz cz (gM nx ny nz cx cy cz o) xi)))) (Cj (.tmp 82) (.tmp 84) 23 κ underlying23 1 8 (.int .i64 0) κ κ δ 1 ω (λ_=> .int (iR (cz 0/(gM nx ny nz cx cy cz o)))) (λxi=> .int (Jm nz cz (gM nx ny nz cx cy cz o) xi)) 34 (λi hi=>by(obtain rfl:i=0:=(ω));show AV.int (Jm _ _ _ _)=_;rw[Jm,if_pos ω]<;>rfl) (λi hi j hj=>by obtain rfl:j=0:=(ω);rfl) (by unfold maxLen;omega) ω κ 33 3 κ κ) (Ae 6 (Dm (((0:Nat):Int)+1) ((0+1:Nat):Int) (Ae 2 (Fu [6,8,10,15,18,59,60,66,67,68] [(0,0),(1,1),(2,2),(3,3),(4,4),(5,5),(34,20)] 21 0 hA0 [(3,1,1,(λ_=> .int (iR (cz 0/(gM nx ny nz cx cy cz o))))),(3,1,1,(λxi=> .int (Jm nz cz (gM nx ny nz cx cy cz o) xi)))] ⟨(Fp λ_ _=>rfl),(Fp λ_ _=>rfl),trivial⟩ (hJ7 _ _ (by omega:nz-(0+1)<nz-0) ⟨0+1,ω,rfl,trivial,.inr ⟨Nat.succ_pos _,rfl⟩⟩))))))))))))
         ·
          exact Ae 6 (zL 33 (Ae 12 (Bx (.osl 33 1 1) (.new 33 (.vec 3 1 1 (λ_=> .int 0))) (Ak 23 1 #[(0,(.const (.int .i64 0)))] κ underlying23 1 sizeOf3 _ zeroValue3 κ β β β 33 [.int 0] κ (λ_=> .int 0) κ) (Yw 33 [94] 3 1 1 (λ_=> .int 0) (Fp λ_ _=>rfl) (Ae 4 (Ja [6,8,10,15,59,60] hJ6 (hs:=(by rw[show nz=0 by omega];kernel_rfl))))))))
        ·
         refine Ae 6 (Em 69 ((k:Int)<(nz:Int)) (λhx3 hx3d=>?_) (λhx3 hx3d=>?_))
         ·
          exact Ae 7 (Gg k nz (Ae 9 (Df (Kh (cz k) (gM nx ny nz cx cy cz o) ((hz _ ω).fit ω) (bG.fit ω) ω) (Df (Mu (cz k/(gM nx ny nz cx cy cz o)) (((hz _ ω).div _).fit ω)) (Ae 13 (Bx (.osl 22 1 1) (.new 22 (.vec 3 1 1 (λ_=> .int (iR (cz k/(gM nx ny nz cx cy cz o)))))) (Ak 23 1 #[(0,(.tmp 83))] κ underlying23 1 sizeOf3 _ zeroValue3 κ β β β 22 [.int (iR (cz k/(gM nx ny nz cx cy cz o)))] κ (λ_=> .int (iR (cz k/(gM nx ny nz cx cy cz o)))) κ) (Bx (.osl 23 1 (k+1)) (.grow2 20 22 23 (.vec 3 1 (k+1) (λxi=> .int (Jm nz cz (gM nx ny nz cx cy cz o) xi)))) (Ck (.tmp 82) (.tmp 84) 23 κ underlying23 1 8 (.int .i64 0) κ κ δ k 1 ω (λxi=> .int (Jm nz cz (gM nx ny nz cx cy cz o) xi)) (λ_=> .int (iR (cz k/(gM nx ny nz cx cy cz o)))) (λxi=> .int (Jm nz cz (gM nx ny nz cx cy cz o) xi)) 23 ω (by unfold maxLen;omega) (λi hi=>rfl) (λi hi=>by(obtain rfl:i=0:=(ω));show AV.int (Jm _ _ _ _)=_;rw[Jm,if_pos ω]<;>rfl) (λi hi j hj=>by obtain rfl:j=0:=(ω);rfl) 20 κ κ 22 3 κ κ) (Ae 6 (Dm ((k:Int)+1) ((k+1:Nat):Int) (Ae 2 (Fu [6,8,10,15,18,59,60,66,67,68] [(0,0),(1,1),(2,2),(3,3),(4,4),(5,5),(23,20)] 21 0 hA0 [(3,1,1,(λ_=> .int (iR (cz k/(gM nx ny nz cx cy cz o))))),(3,1,k+1,(λxi=> .int (Jm nz cz (gM nx ny nz cx cy cz o) xi)))] ⟨(Fp λ_ _=>rfl),(Fp λ_ _=>rfl),trivial⟩ (hJ7 _ _ (by omega:nz-(k+1)<nz-k) ⟨k+1,ω,rfl,trivial,.inr ⟨Nat.succ_pos _,rfl⟩⟩))))))))))))
         ·
          refine Ae 6 (sD 20 4 5 3 1 k (λxi=> .int (Jm nz cz (gM nx ny nz cx cy cz o) xi)) (Fp λ_ _=>rfl) ?_)
          have hke:k=max nz 1:=by omega
          subst hke
          exact zL 34 (Ae 7 (Kf 92 (decide (((max nz 1:Nat):Int)=0)) false (decide_eq_false ω) (Ae 5 (Ja [6,8,10,15,59,60] hJ6))))
      ·
       refine Ae 4 (Bx (.ptr 4 4) .none (Dt 222 (.tmp 59) (.tmp 60) κ underlying222 1 sizeOf221 1 false isAgg221 [.ptr 4 3,.ptr 4 4,.ptr 4 5] 1 κ κ ω δ β δ (.ptr 4 4) κ) (Ae 8 (Bx (.ptr 0 1) .none (Cb 203 (.tmp 6) (.tmp 64) κ underlying203 0 0 1 1 1 κ κ sizeOf202 δ ω δ) (Ae 6 (Wn [6,8,10,15,18,59,60,66,67,68] (λm s=>∃k,k<=ny/\m=ny-k/\True/\((k=0/\s=⟨[(6,.ptr 0 0),(8,.ptr 2 0),(10,.ptr 3 0),(15,.ptr 4 0),(18,.ptr 4 4),(59,.agg [.ptr 4 3,.ptr 4 4,.ptr 4 5]),(60,.int 1),(66,Bg ny cy),(67,.int (ny:Int)),(68,.int ((0:Nat):Int))],[(0,.box 203 [Bg nx cx,Bg ny cy,Bg nz cz]),(1,wB o),(2,sB),(3,wB (gM nx ny nz cx cy cz o)),(4,.box 81 [.int f,.int t,.int (iR (o/(gM nx ny nz cx cy cz o))),.sl 1 (max nx 1) (λxi=> .int (Jm nx cx (gM nx ny nz cx cy cz o) xi)),.lit (.slice none 0 0),.lit (.slice none 0 0)]),(5,wB (o/(gM nx ny nz cx cy cz o)))],30,98⟩)\/(0<k/\s=⟨[(6,.ptr 0 0),(8,.ptr 2 0),(10,.ptr 3 0),(15,.ptr 4 0),(18,.ptr 4 4),(59,.agg [.ptr 4 3,.ptr 4 4,.ptr 4 5]),(60,.int 1),(66,Bg ny cy),(67,.int (ny:Int)),(68,.int (k:Int))],[(0,.box 203 [Bg nx cx,Bg ny cy,Bg nz cz]),(1,wB o),(2,sB),(3,wB (gM nx ny nz cx cy cz o)),(4,.box 81 [.int f,.int t,.int (iR (o/(gM nx ny nz cx cy cz o))),.sl 1 (max nx 1) (λxi=> .int (Jm nx cx (gM nx ny nz cx cy cz o) xi)),.osl 20 1 k,.lit (.slice none 0 0)]),(5,wB (o/(gM nx ny nz cx cy cz o))),(20,.vec 3 1 k (λxi=> .int (Jm ny cy (gM nx ny nz cx cy cz o) xi)))],21,98⟩))) ny ⟨0,Nat.zero_le _,rfl,trivial,.inl ⟨rfl,κ⟩⟩ ?_)))))
       rintro _ _ ⟨k,hkn,rfl,hFk,(⟨hk0,rfl⟩|⟨hk0,rfl⟩)⟩ J8 hJ8
       ·
        subst hk0
        refine Ae 6 (Em 69 (((0:Nat):Int)<(ny:Int)) (λhx4 hx4d=>?_) (λhx4 hx4d=>?_))
        ·
         exact Ae 7 (Gg 0 ny (Ae 9 (Df (Kh (cy 0) (gM nx ny nz cx cy cz o) ((hy _ ω).fit ω) (bG.fit ω) ω) (Df (Mu (cy 0/(gM nx ny nz cx cy cz o)) (((hy _ ω).div _).fit ω)) (Ae 13 (Bx (.osl 31 1 1) (.new 31 (.vec 3 1 1 (λ_=> .int (iR (cy 0/(gM nx ny nz cx cy cz o)))))) (Ak 23 1 #[(0,(.tmp 83))] κ underlying23 1 sizeOf3 _ zeroValue3 κ β β β 31 [.int (iR (cy 0/(gM nx ny nz cx cy cz o)))] κ (λ_=> .int (iR (cy 0/(gM nx ny nz cx cy cz o)))) κ) (Bx (.osl 32 1 1) (.newr 31 32 (.vec 3 1 1 (λxi=> .int (Jm ny cy (gM nx ny nz cx cy cz o) xi)))) (Cj (.tmp 82) (.tmp 84) 23 κ underlying23 1 8 (.int .i64 0) κ κ δ 1 ω (λ_=> .int (iR (cy 0/(gM nx ny nz cx cy cz o)))) (λxi=> .int (Jm ny cy (gM nx ny nz cx cy cz o) xi)) 32 (λi hi=>by(obtain rfl:i=0:=(ω));show AV.int (Jm _ _ _ _)=_;rw[Jm,if_pos ω]<;>rfl) (λi hi j hj=>by obtain rfl:j=0:=(ω);rfl) (by unfold maxLen;omega) ω κ 31 3 κ κ) (Ae 6 (Dm (((0:Nat):Int)+1) ((0+1:Nat):Int) (Ae 2 (Fu [6,8,10,15,18,59,60,66,67,68] [(0,0),(1,1),(2,2),(3,3),(4,4),(5,5),(32,20)] 21 0 hA0 [(3,1,1,(λ_=> .int (iR (cy 0/(gM nx ny nz cx cy cz o))))),(3,1,1,(λxi=> .int (Jm ny cy (gM nx ny nz cx cy cz o) xi)))] ⟨(Fp λ_ _=>rfl),(Fp λ_ _=>rfl),trivial⟩ (hJ8 _ _ (by omega:ny-(0+1)<ny-0) ⟨0+1,ω,rfl,trivial,.inr ⟨Nat.succ_pos _,rfl⟩⟩))))))))))))
        ·
         exact Ae 6 (zL 31 (Ae 12 (Bx (.osl 31 1 1) (.new 31 (.vec 3 1 1 (λ_=> .int 0))) (Ak 23 1 #[(0,(.const (.int .i64 0)))] κ underlying23 1 sizeOf3 _ zeroValue3 κ β β β 31 [.int 0] κ (λ_=> .int 0) κ) (Yw 31 [94] 3 1 1 (λ_=> .int 0) (Fp λ_ _=>rfl) (Ae 4 (Ja [6,8,10,15,59,60] hJ5 (hs:=(by rw[show ny=0 by omega];kernel_rfl))))))))
       ·
        refine Ae 6 (Em 69 ((k:Int)<(ny:Int)) (λhx5 hx5d=>?_) (λhx5 hx5d=>?_))
        ·
         exact Ae 7 (Gg k ny (Ae 9 (Df (Kh (cy k) (gM nx ny nz cx cy cz o) ((hy _ ω).fit ω) (bG.fit ω) ω) (Df (Mu (cy k/(gM nx ny nz cx cy cz o)) (((hy _ ω).div _).fit ω)) (Ae 13 (Bx (.osl 22 1 1) (.new 22 (.vec 3 1 1 (λ_=> .int (iR (cy k/(gM nx ny nz cx cy cz o)))))) (Ak 23 1 #[(0,(.tmp 83))] κ underlying23 1 sizeOf3 _ zeroValue3 κ β β β 22 [.int (iR (cy k/(gM nx ny nz cx cy cz o)))] κ (λ_=> .int (iR (cy k/(gM nx ny nz cx cy cz o)))) κ) (Bx (.osl 23 1 (k+1)) (.grow2 20 22 23 (.vec 3 1 (k+1) (λxi=> .int (Jm ny cy (gM nx ny nz cx cy cz o) xi)))) (Ck (.tmp 82) (.tmp 84) 23 κ underlying23 1 8 (.int .i64 0) κ κ δ k 1 ω (λxi=> .int (Jm ny cy (gM nx ny nz cx cy cz o) xi)) (λ_=> .int (iR (cy k/(gM nx ny nz cx cy cz o)))) (λxi=> .int (Jm ny cy (gM nx ny nz cx cy cz o) xi)) 23 ω (by unfold maxLen;omega) (λi hi=>rfl) (λi hi=>by(obtain rfl:i=0:=(ω));show AV.int (Jm _ _ _ _)=_;rw[Jm,if_pos ω]<;>rfl) (λi hi j hj=>by obtain rfl:j=0:=(ω);rfl) 20 κ κ 22 3 κ κ) (Ae 6 (Dm ((k:Int)+1) ((k+1:Nat):Int) (Ae 2 (Fu [6,8,10,15,18,59,60,66,67,68] [(0,0),(1,1),(2,2),(3,3),(4,4),(5,5),(23,20)] 21 0 hA0 [(3,1,1,(λ_=> .int (iR (cy k/(gM nx ny nz cx cy cz o))))),(3,1,k+1,(λxi=> .int (Jm ny cy (gM nx ny nz cx cy cz o) xi)))] ⟨(Fp λ_ _=>rfl),(Fp λ_ _=>rfl),trivial⟩ (hJ8 _ _ (by omega:ny-(k+1)<ny-k) ⟨k+1,ω,rfl,trivial,.inr ⟨Nat.succ_pos _,rfl⟩⟩))))))))))))
        ·
         refine Ae 6 (sD 20 4 4 3 1 k (λxi=> .int (Jm ny cy (gM nx ny nz cx cy cz o) xi)) (Fp λ_ _=>rfl) ?_)
         have hke:k=max ny 1:=by omega
         subst hke
         exact zL 32 (Ae 7 (Kf 92 (decide (((max ny 1:Nat):Int)=0)) false (decide_eq_false ω) (Ae 5 (Ja [6,8,10,15,59,60] hJ5))))
     ·
      refine Ae 4 (Bx (.ptr 4 3) .none (Dt 222 (.tmp 59) (.tmp 60) κ underlying222 1 sizeOf221 0 false isAgg221 [.ptr 4 3,.ptr 4 4,.ptr 4 5] 0 κ κ ω δ β δ (.ptr 4 3) κ) (Ae 8 (Bx (.ptr 0 0) .none (Cb 203 (.tmp 6) (.tmp 64) κ underlying203 0 0 1 0 0 κ κ sizeOf202 δ ω δ) (Ae 6 (Wn [6,8,10,15,18,59,60,66,67,68] (λm s=>∃k,k<=nx/\m=nx-k/\True/\((k=0/\s=⟨[(6,.ptr 0 0),(8,.ptr 2 0),(10,.ptr 3 0),(15,.ptr 4 0),(18,.ptr 4 3),(59,.agg [.ptr 4 3,.ptr 4 4,.ptr 4 5]),(60,.int 0),(66,Bg nx cx),(67,.int (nx:Int)),(68,.int ((0:Nat):Int))],[(0,.box 203 [Bg nx cx,Bg ny cy,Bg nz cz]),(1,wB o),(2,sB),(3,wB (gM nx ny nz cx cy cz o)),(4,.box 81 [.int f,.int t,.int (iR (o/(gM nx ny nz cx cy cz o))),.lit (.slice none 0 0),.lit (.slice none 0 0),.lit (.slice none 0 0)]),(5,wB (o/(gM nx ny nz cx cy cz o)))],6,98⟩)\/(0<k/\s=⟨[(6,.ptr 0 0),(8,.ptr 2 0),(10,.ptr 3 0),(15,.ptr 4 0),(18,.ptr 4 3),(59,.agg [.ptr 4 3,.ptr 4 4,.ptr 4 5]),(60,.int 0),(66,Bg nx cx),(67,.int (nx:Int)),(68,.int (k:Int))],[(0,.box 203 [Bg nx cx,Bg ny cy,Bg nz cz]),(1,wB o),(2,sB),(3,wB (gM nx ny nz cx cy cz o)),(4,.box 81 [.int f,.int t,.int (iR (o/(gM nx ny nz cx cy cz o))),.osl 20 1 k,.lit (.slice none 0 0),.lit (.slice none 0 0)]),(5,wB (o/(gM nx ny nz cx cy cz o))),(20,.vec 3 1 k (λxi=> .int (Jm nx cx (gM nx ny nz cx cy cz o) xi)))],21,98⟩))) nx ⟨0,Nat.zero_le _,rfl,trivial,.inl ⟨rfl,κ⟩⟩ ?_)))))
      rintro _ _ ⟨k,hkn,rfl,hFk,(⟨hk0,rfl⟩|⟨hk0,rfl⟩)⟩ J9 hJ9
      ·
       subst hk0
       refine Ae 6 (Em 69 (((0:Nat):Int)<(nx:Int)) (λhx6 hx6d=>?_) (λhx6 hx6d=>?_))
       ·
        exact Ae 7 (Gg 0 nx (Ae 9 (Df (Kh (cx 0) (gM nx ny nz cx cy cz o) ((hx _ ω).fit ω) (bG.fit ω) ω) (Df (Mu (cx 0/(gM nx ny nz cx cy cz o)) (((hx _ ω).div _).fit ω)) (Ae 13 (Bx (.osl 7 1 1) (.new 7 (.vec 3 1 1 (λ_=> .int (iR (cx 0/(gM nx ny nz cx cy cz o)))))) (Ak 23 1 #[(0,(.tmp 83))] κ underlying23 1 sizeOf3 _ zeroValue3 κ β β β 7 [.int (iR (cx 0/(gM nx ny nz cx cy cz o)))] κ (λ_=> .int (iR (cx 0/(gM nx ny nz cx cy cz o)))) κ) (Bx (.osl 8 1 1) (.newr 7 8 (.vec 3 1 1 (λxi=> .int (Jm nx cx (gM nx ny nz cx cy cz o) xi)))) (Cj (.tmp 82) (.tmp 84) 23 κ underlying23 1 8 (.int .i64 0) κ κ δ 1 ω (λ_=> .int (iR (cx 0/(gM nx ny nz cx cy cz o)))) (λxi=> .int (Jm nx cx (gM nx ny nz cx cy cz o) xi)) 8 (λi hi=>by(obtain rfl:i=0:=(ω));show AV.int (Jm _ _ _ _)=_;rw[Jm,if_pos ω]<;>rfl) (λi hi j hj=>by obtain rfl:j=0:=(ω);rfl) (by unfold maxLen;omega) ω κ 7 3 κ κ) (Ae 6 (Dm (((0:Nat):Int)+1) ((0+1:Nat):Int) (Ae 2 (Fu [6,8,10,15,18,59,60,66,67,68] [(0,0),(1,1),(2,2),(3,3),(4,4),(5,5),(8,20)] 21 0 hA0 [(3,1,1,(λ_=> .int (iR (cx 0/(gM nx ny nz cx cy cz o))))),(3,1,1,(λxi=> .int (Jm nx cx (gM nx ny nz cx cy cz o) xi)))] ⟨(Fp λ_ _=>rfl),(Fp λ_ _=>rfl),trivial⟩ (hJ9 _ _ (by omega:nx-(0+1)<nx-0) ⟨0+1,ω,rfl,trivial,.inr ⟨Nat.succ_pos _,rfl⟩⟩))))))))))))
       ·
        exact Ae 6 (zL 29 (Ae 12 (Bx (.osl 29 1 1) (.new 29 (.vec 3 1 1 (λ_=> .int 0))) (Ak 23 1 #[(0,(.const (.int .i64 0)))] κ underlying23 1 sizeOf3 _ zeroValue3 κ β β β 29 [.int 0] κ (λ_=> .int 0) κ) (Yw 29 [94] 3 1 1 (λ_=> .int 0) (Fp λ_ _=>rfl) (Ae 4 (Ja [6,8,10,15,59,60] hJ4 (hs:=(by rw[show nx=0 by omega];kernel_rfl))))))))
      ·
       refine Ae 6 (Em 69 ((k:Int)<(nx:Int)) (λhx7 hx7d=>?_) (λhx7 hx7d=>?_))
       ·
        exact Ae 7 (Gg k nx (Ae 9 (Df (Kh (cx k) (gM nx ny nz cx cy cz o) ((hx _ ω).fit ω) (bG.fit ω) ω) (Df (Mu (cx k/(gM nx ny nz cx cy cz o)) (((hx _ ω).div _).fit ω)) (Ae 13 (Bx (.osl 22 1 1) (.new 22 (.vec 3 1 1 (λ_=> .int (iR (cx k/(gM nx ny nz cx cy cz o)))))) (Ak 23 1 #[(0,(.tmp 83))] κ underlying23 1 sizeOf3 _ zeroValue3 κ β β β 22 [.int (iR (cx k/(gM nx ny nz cx cy cz o)))] κ (λ_=> .int (iR (cx k/(gM nx ny nz cx cy cz o)))) κ) (Bx (.osl 23 1 (k+1)) (.grow2 20 22 23 (.vec 3 1 (k+1) (λxi=> .int (Jm nx cx (gM nx ny nz cx cy cz o) xi)))) (Ck (.tmp 82) (.tmp 84) 23 κ underlying23 1 8 (.int .i64 0) κ κ δ k 1 ω (λxi=> .int (Jm nx cx (gM nx ny nz cx cy cz o) xi)) (λ_=> .int (iR (cx k/(gM nx ny nz cx cy cz o)))) (λxi=> .int (Jm nx cx (gM nx ny nz cx cy cz o) xi)) 23 ω (by unfold maxLen;omega) (λi hi=>rfl) (λi hi=>by(obtain rfl:i=0:=(ω));show AV.int (Jm _ _ _ _)=_;rw[Jm,if_pos ω]<;>rfl) (λi hi j hj=>by obtain rfl:j=0:=(ω);rfl) 20 κ κ 22 3 κ κ) (Ae 6 (Dm ((k:Int)+1) ((k+1:Nat):Int) (Ae 2 (Fu [6,8,10,15,18,59,60,66,67,68] [(0,0),(1,1),(2,2),(3,3),(4,4),(5,5),(23,20)] 21 0 hA0 [(3,1,1,(λ_=> .int (iR (cx k/(gM nx ny nz cx cy cz o))))),(3,1,k+1,(λxi=> .int (Jm nx cx (gM nx ny nz cx cy cz o) xi)))] ⟨(Fp λ_ _=>rfl),(Fp λ_ _=>rfl),trivial⟩ (hJ9 _ _ (by omega:nx-(k+1)<nx-k) ⟨k+1,ω,rfl,trivial,.inr ⟨Nat.succ_pos _,rfl⟩⟩))))))))))))
       ·
        refine Ae 6 (sD 20 4 3 3 1 k (λxi=> .int (Jm nx cx (gM nx ny nz cx cy cz o) xi)) (Fp λ_ _=>rfl) ?_)
        have hke:k=max nx 1:=by omega
        subst hke
        exact zL 30 (Ae 7 (Kf 92 (decide (((max nx 1:Nat):Int)=0)) false (decide_eq_false ω) (Ae 5 (Ja [6,8,10,15,59,60] hJ4))))
def Ys (n:Nat) (c:Nat->Int) (g:Int):List Int:=(List.range (max n 1)).map (Jm n c g)
theorem tH (n:Nat) (c:Nat->Int) (g:Int) (i:Nat):(Ys n c g).getD i 0=Jm n c g i:=by
 unfold Ys
 rw[List.getD_eq_getElem?_getD,List.getElem?_map]
 by_cases h:i<max n 1
 rw[List.getElem?_range h];rfl
 rw[List.getElem?_eq_none (by simp;omega)]
 show (0:Int)=_
 unfold Jm
 rw[if_neg ω]
theorem aQ (n:Nat) (c:Nat->Int) (g:Int):(Ys n c g).length=max n 1:=by simp[Ys]
def uF (f t:Int) (nx ny nz:Nat) (cx cy cz:Nat->Int) (o:Int):Sg:=⟨f,t,iR (o/gM nx ny nz cx cy cz o),Ys nx cx (gM nx ny nz cx cy cz o),Ys ny cy (gM nx ny nz cx cy cz o),Ys nz cz (gM nx ny nz cx cy cz o)⟩
def uE (nx ny nz:Nat) (cx cy cz:Nat->Int) (o:Int):Bool:=decide ((0:Int)<(o/gM nx ny nz cx cy cz o-4294967296).sign)
theorem Abr {f t:Int} {nx ny nz:Nat} {cx cy cz:Nat->Int} {o:Int} (h:uE nx ny nz cx cy cz o=false):Yf f t nx ny nz cx cy cz o= .tup [Cw (uF f t nx ny nz cx cy cz o),.bool true]:=by
 unfold Yf uF
 rw[if_neg (of_decide_eq_false h)]
 have key:∀n c,(AV.sl 1 (max n 1) λxi=> .int (Jm n c (gM nx ny nz cx cy cz o) xi))=Bn (Ys n c (gM nx ny nz cx cy cz o)):=λn c=>by
  show _=AV.sl 1 (Ys n c (gM nx ny nz cx cy cz o)).length λxi=> .int ((Ys n c (gM nx ny nz cx cy cz o)).getD xi 0)
  rw[aQ,show (λxi=>AV.int ((Ys n c (gM nx ny nz cx cy cz o)).getD xi 0))=λxi=> .int (Jm n c (gM nx ny nz cx cy cz o) xi) from funext λxi=>by rw[tH]]
 rw[key,key,key]
theorem Abq {f t:Int} {nx ny nz:Nat} {cx cy cz:Nat->Int} {o:Int} (h:uE nx ny nz cx cy cz o=true):Yf f t nx ny nz cx cy cz o= .lit (.tuple #[.agg #[.int .i64 f,.int .i64 t,.int .i64 0,.slice none 0 0,.slice none 0 0,.slice none 0 0],.bool false]):=by
 unfold Yf
 rw[if_pos (of_decide_eq_true h)]
abbrev pD (s:Sg):Int:=s.t-s.f
def Ht (s:Sg) (a b:Int):Sg:=uF a b (on s.x (a-s.f) (b-a) (pD s)) (on s.y (a-s.f) (b-a) (pD s)) (on s.z (a-s.f) (b-a) (pD s)) (oc s.x (a-s.f) (b-a) (pD s)) (oc s.y (a-s.f) (b-a) (pD s)) (oc s.z (a-s.f) (b-a) (pD s)) (s.o*pD s^5)
def Vx (s:Sg) (a b:Int):Bool:=uE (on s.x (a-s.f) (b-a) (pD s)) (on s.y (a-s.f) (b-a) (pD s)) (on s.z (a-s.f) (b-a) (pD s)) (oc s.x (a-s.f) (b-a) (pD s)) (oc s.y (a-s.f) (b-a) (pD s)) (oc s.z (a-s.f) (b-a) (pD s)) (s.o*pD s^5)
theorem Bs {x:Int} (h: -3600000<=x/\x<=3600000):Cv x:=⟨ω,ω⟩
theorem sP (s:Sg) (a b:Int) (hs:Ty s) (ho:Hf s) (ha:s.f<=a/\a<=s.t) (hb:a<=b/\b<=s.t):AF Tryz.prog 140 [.int a,.int b,.agg [Uj s.x (a-s.f) (b-a) (pD s),Uj s.y (a-s.f) (b-a) (pD s),Uj s.z (a-s.f) (b-a) (pD s)],WA (s.o*pD s^5)] (Yf a b (on s.x (a-s.f) (b-a) (pD s)) (on s.y (a-s.f) (b-a) (pD s)) (on s.z (a-s.f) (b-a) (pD s)) (oc s.x (a-s.f) (b-a) (pD s)) (oc s.y (a-s.f) (b-a) (pD s)) (oc s.z (a-s.f) (b-a) (pD s)) (s.o*pD s^5)):=by
 have hh:=ho.1
 unfold Ki at hh
 have h1:Cv (a-s.f):=Bs ω
 have h2:Cv (b-a):=Bs ω
 have h3:Cv (pD s):=Bs (by show -3600000<=s.t-s.f/\s.t-s.f<=3600000;omega)
 have hx:=ho.2.1.2.1
 have hy:=ho.2.2.1.2.1
 have hz:=ho.2.2.2.1.2.1
 refine Acw a b _ _ _ _ _ _ _ (Ab0 _ _ _ _ hx) (Ab0 _ _ _ _ hy) (Ab0 _ _ _ _ hz) (λi _=>fF hs.x hx h1 h2 h3 i) (λi _=>fF hs.y hy h1 h2 h3 i) (λi _=>fF hs.z hz h1 h2 h3 i) ((Xh hs h3).mono ω) ?_
 exact Int.mul_pos ω (Int.pow_pos (by show 0<s.t-s.f;omega))
theorem Zy (s:Sg) (a b:Int) (hs:Ty s) (ho:Hf s) (ha:s.f<=a/\a<=s.t) (hb:a<=b/\b<=s.t) (h:Vx s a b=false):AF Tryz.prog 140 [.int a,.int b,.agg [Uj s.x (a-s.f) (b-a) (pD s),Uj s.y (a-s.f) (b-a) (pD s),Uj s.z (a-s.f) (b-a) (pD s)],WA (s.o*pD s^5)] (.tup [Cw (Ht s a b),.bool true]):=by
 have:=sP s a b hs ho ha hb
 rwa [Abr h] at this
theorem Zx (s:Sg) (a b:Int) (hs:Ty s) (ho:Hf s) (ha:s.f<=a/\a<=s.t) (hb:a<=b/\b<=s.t) (h:Vx s a b=true):AF Tryz.prog 140 [.int a,.int b,.agg [Uj s.x (a-s.f) (b-a) (pD s),Uj s.y (a-s.f) (b-a) (pD s),Uj s.z (a-s.f) (b-a) (pD s)],WA (s.o*pD s^5)] (.lit (.tuple #[.agg #[.int .i64 a,.int .i64 b,.int .i64 0,.slice none 0 0,.slice none 0 0,.slice none 0 0],.bool false])):=by
 have:=sP s a b hs ho ha hb
 rwa [Abq h] at this
theorem Lx (s:Sg) (a b d:Int) (hs:Ty s) (ho:Hf s) (ha:Cv a) (hb:Cv b) (hd:Cv d) (hdp:0<d):AF Tryz.prog 141 [Cw s,.int a,.int b,.int d] (.agg [Uj s.x a b d,Uj s.y a b d,Uj s.z a b d]):=
 kX s a b d hs ho.2.1.1 ho.2.1.2.1 ho.2.2.1.1 ho.2.2.1.2.1 ho.2.2.2.1.1 ho.2.2.2.1.2.1 ha hb hd hdp
abbrev pA (l:List Sg) (f:Int) (i:Nat):Int:=max f (l.getD i Sg.none).f
abbrev pB (l:List Sg) (t:Int) (i:Nat):Int:=min t (l.getD i Sg.none).t
def Jg (l:List Sg) (f t:Int):Nat->List Sg
 |0=>[]
 |i+1=>if pA l f i<pB l t i then Jg l f t i++[Ht (l.getD i Sg.none) (pA l f i) (pB l t i)] else Jg l f t i
def Xw (l:List Sg) (f t:Int) (i:Nat):Prop:=∀j,j<i->pA l f j<pB l t j->Vx (l.getD j Sg.none) (pA l f j) (pB l t j)=false
theorem Oz {l:List Sg} {f t:Int} {i:Nat} (h:¬pA l f i<pB l t i):Jg l f t (i+1)=Jg l f t i:=by rw[Jg,if_neg h]
theorem Mx {l:List Sg} {f t:Int} {i:Nat} (h:pA l f i<pB l t i):Jg l f t (i+1)=Jg l f t i++[Ht (l.getD i Sg.none) (pA l f i) (pB l t i)]:=by rw[Jg,if_pos h]
theorem aR {l:List Sg} {f t:Int} {i:Nat} (h:¬pA l f i<pB l t i) (hk:Xw l f t i):Xw l f t (i+1):=λj hj h2=>by
 by_cases e:j=i
 subst e;exact absurd h2 h
 exact hk j ω h2
theorem eH {l:List Sg} {f t:Int} {i:Nat} (h:Vx (l.getD i Sg.none) (pA l f i) (pB l t i)=false) (hk:Xw l f t i):Xw l f t (i+1):=λj hj h2=>by
 by_cases e:j=i
 subst e;exact h
 exact hk j ω h2
open Classical in
noncomputable def mB (l:List Sg) (f t:Int):List Sg×Int:=if Xw l f t l.length then (Jg l f t l.length,0) else ([],7)
theorem tJ {l:List Sg} {f t:Int} (h:Xw l f t l.length):mB l f t=(Jg l f t l.length,0):=if_pos h
theorem tI {l:List Sg} {f t:Int} {j:Nat} (hj:j<l.length) (h1:pA l f j<pB l t j) (h2:Vx (l.getD j Sg.none) (pA l f j) (pB l t j)=true):mB l f t=([],7):=if_neg λh=>by
 have:=h j hj h1
 rw[h2] at this;cases this
theorem bI {p:Pr} {k:Nat} {t:Int} {m:List Int}:∀{i:Nat} {l:List Int},i<=m.length->Ei p k t m i=some l->∀j,l.getD j 0=m.getD j 0+if j<i then ((Hb p k t j).length:Int) else 0
 |0,l,_,h,j=>by cases h;rw[if_neg (Nat.not_lt_zero j),Int.add_zero]
 |i+1,l,hi,h,j=>by
  rw[Ei] at h
  cases h1:Ei p k t m i with
  |none=>rw[h1] at h;cases h
  |some l1=>
   rw[h1] at h
   simp only at h
   have ih:=bI ω h1
   have hlen:l1.length=m.length:=by
    clear ih h
    have key:∀{i:Nat} {l1:List Int},Ei p k t m i=some l1->l1.length=m.length:=by
     intro i
     induction i with
     |zero=>intro l1 h;cases h;rfl
     |succ i ih=>
      intro l1 h
      rw[Ei] at h
      cases h2:Ei p k t m i with
      |none=>rw[h2] at h;cases h
      |some l2=>
       rw[h2] at h
       simp only at h
       split at h
       cases h;rw[List.length_set];exact ih h2
       cases h
    exact key h1
   split at h
   cases h
   by_cases e:i=j
   subst e
   rw[if_pos (Nat.lt_succ_self i)]
   have h2:=ih i
   rw[if_neg (Nat.lt_irrefl i),Int.add_zero] at h2
   rw[<-h2]
   simp[List.getD_eq_getElem?_getD,show i<l1.length by omega]
   have h2:=ih j
   have h4:(if j<i then ((Hb p k t j).length:Int) else 0)=if j<i+1 then ((Hb p k t j).length:Int) else 0:=by
    by_cases hj:j<i
    rw[if_pos hj,if_pos ω]
    rw[if_neg hj,if_neg ω]
   rw[<-h4,<-h2]
   simp[List.getD_eq_getElem?_getD,List.getElem?_set_ne e]
   cases h
theorem oU {p:Pr}:∀{k:Nat} {t:Int} {m:List Int},Kp p k=some (t,m)->∀i,i<p.names.length->m.getD i 0=((Iy p k i).length:Int)/\((Iy p k i).length:Int)<=256
 |0,t,m,h,i,hi=>by
  simp only[Kp,Option.some.injEq,Prod.mk.injEq] at h
  obtain⟨_,rfl⟩:=h
  simp[List.getD_eq_getElem?_getD,hi,Iy]
 |k+1,t,m,h,i,hi=>by
  have hfin:=Nk h
  have hm:i<m.length:=by rw[hfin.2.2.1];exact hi
  have hb:m.getD i 0<=256:=by
   have:m.getD i 0=m[i]:=by simp[List.getD_eq_getElem?_getD,hm]
   rw[this];exact(hfin.2.2.2.1 _ (List.getElem_mem hm)).2
  rw[Kp] at h
  cases h1:Kp p k with
  |none=>rw[h1] at h;cases h
  |some tm=>
   obtain⟨t1,m1⟩:=tm
   rw[h1] at h
   simp only at h
   have ih:=oU h1 i hi
   have h1f:=Nk h1
   have ht:=(cT h1).1
   split at h
   cases h2:Ei p k t1 m1 p.names.length with
   |none=>rw[h2] at h;cases h
   |some m2=>
    rw[h2] at h
    simp only[Option.some.injEq,Prod.mk.injEq] at h
    obtain⟨_,rfl⟩:=h
    have h3:=bI (by rw[h1f.2.2.1];exact Nat.le_refl _) h2 i
    rw[if_pos hi,ih.1,ht] at h3
    have h4:m2.getD i 0=((Iy p (k+1) i).length:Int):=by rw[h3,Iy,List.length_append];omega
    exact⟨h4,ω⟩
   cases h
theorem Adp {p:Pr} (h:Fg p=true) {i:Nat} (hi:i<p.names.length):(Iy p p.acts.length i).length<=256:=by
 unfold Fg at h
 simp only[Bool.and_eq_true] at h
 obtain⟨tm,ht⟩:=Option.isSome_iff_exists.1 h.2
 obtain⟨t,m⟩:=tm
 have:=(oU ht i hi).2
 omega
theorem mF {p:Pr} (ho:Yp p):∀k,k<=p.acts.length->0<k->0<Br p.acts k
 |0,_,h=>absurd h (Nat.lt_irrefl 0)
 |k+1,hk,_=>by
  have h1:=(ho.ends k ω).1
  have h2:=ho.len k ω
  rw[Br];omega
structure Afg (p:Pr) (i:Nat) (l:List Sg):Prop where
 ok:Fx l
 pin:Dn l
 first:(l.getD 0 Sg.none).f=0
 last:(l.getD (l.length-1) Sg.none).t=Br p.acts p.acts.length
 one:∀i,i<l.length->(l.getD i Sg.none).o=1
theorem Ae7 {p:Pr} (h:Fg p=true) (h0:0<p.acts.length) {i:Nat} (hi:i<p.names.length):Afg p i (Iy p p.acts.length i):=by
 have ho:=Km h
 have hc:=Xg ho hi p.acts.length (Nat.le_refl _)
 have hp:=hc.pos (mF ho _ (Nat.le_refl _) h0)
 have hf:=Adp h hi
 refine⟨⟨λj hj=>⟨(hc.seg j hj).1,(hc.seg j hj).2.2.2⟩,hp,hf⟩,⟨ω,λj=>?_⟩,hc.first hp,hc.last hp,λj hj=>(hc.seg j hj).2.2.1⟩
 by_cases hj:j<(Iy p p.acts.length i).length
 exact(hc.seg j hj).2.1
 have e:(Iy p p.acts.length i).getD j Sg.none=Sg.none:=by rw[List.getD_eq_getElem?_getD,List.getElem?_eq_none ω];rfl
 rw[e];exact Dn.nil.2 0
theorem lZ (p:Nat->Int) (m:Nat) (d:Int):∀j k,k<=j->j<m->cN p m 0 d d j k=p (m-1-j+k)*d^j
 |0,k,hk,hj=>by
  obtain rfl:k=0:=by omega
  rw[cN,Int.pow_zero,Int.mul_one];rfl
 |j+1,k,hk,hj=>by
  rw[cN]
  by_cases h0:k=0
  subst h0
  rw[if_pos rfl,Zl]
  unfold inn
  rw[if_pos (Nat.succ_pos j),if_pos rfl,Int.mul_zero,Int.zero_add,Int.zero_add,show m-2-j=m-1-(j+1)+0 by omega]
  rw[if_neg h0,Int.add_zero]
  have ih:=lZ p m d j (k-1) ω ω
  unfold inn
  by_cases h1:k<j+1
  rw[if_pos h1,if_neg h0,Int.mul_zero,Int.add_zero,ih,Int.pow_succ,Int.mul_assoc,show m-1-j+(k-1)=m-1-(j+1)+k by omega]
  obtain rfl:k=j+1:=by omega
  rw[Nat.add_sub_cancel] at ih
  rw[if_neg h1,if_pos ⟨rfl,Nat.succ_pos j⟩,Nat.add_sub_cancel,ih,Int.pow_succ,Int.mul_assoc,show m-1-j+j=m-1-(j+1)+(j+1) by omega]
theorem zM {l:List Int} {d:Int} (hd:0<d) (h1:1<=l.length) (h6:l.length<=6) (hl:1<l.length->l.getD (l.length-1) 0≠0):
  (on l 0 d d=l.length/\∀i,i<l.length->oc l 0 d d i=l.getD i 0*d^5)\/(l=[0]/\on l 0 d d=0):=by
 by_cases hz:l.getD (l.length-1) 0=0
 right
 have e1:l.length=1:=by
  by_cases h:1<l.length
  exact absurd hz (hl h)
  omega
 obtain⟨a,rfl⟩:=List.length_eq_one_iff.1 e1
 have ha:a=0:=hz
 subst ha
 refine⟨rfl,?_⟩
 have e2:cZ [0]=0:=by decide
 show Ft (oc [0] 0 d d) (Ft (nP [0] 0 d d) (cZ [0]))=0
 rw[e2];rfl
 left
 have e2:cZ l=l.length:=Te (.inr hz)
 have e3:∀i,i<l.length->nP l 0 d d i=l.getD i 0*d^(l.length-1):=λi hi=>by
  show cN (Zc l) (cZ l) 0 d d (cZ l-1) i=_
  rw[e2,lZ _ _ _ _ _ ω ω,show l.length-1-(l.length-1)+i=i by omega]
 have hdp:∀k,d^k≠0:=λk=>Int.ne_of_gt (Int.pow_pos hd)
 have e4:∀i,i<l.length->oc l 0 d d i=l.getD i 0*d^5:=λi hi=>by
  show nP l 0 d d i*d^(6-l.length)=_
  rw[e3 i hi,Int.mul_assoc,<-Int.pow_add,show l.length-1+(6-l.length)=5 by omega]
 refine⟨?_,e4⟩
 have e5:Ft (nP l 0 d d) (cZ l)=l.length:=by
  rw[e2]
  refine Te (.inr ?_)
  rw[e3 _ ω]
  exact Int.mul_ne_zero hz (hdp _)
 show Ft (oc l 0 d d) (Ft (nP l 0 d d) (cZ l))=l.length
 rw[e5]
 refine Te (.inr ?_)
 rw[e4 _ ω]
 exact Int.mul_ne_zero hz (hdp _)
theorem Vf {c:Nat->Int} {g:Int} (hg:0<g):∀k,(∀i,i<k->∃q,c i=q*g)->gF c g k=g
 |0,_=>rfl
 |k+1,h=>by
  rw[gF,Vf hg k λi hi=>h i ω]
  obtain⟨q,hq⟩:=h k (Nat.lt_succ_self k)
  rw[hq,Int.natAbs_mul,Nat.gcd_eq_left (Nat.dvd_mul_left _ _)]
  omega
theorem Uo {l:List Int} {d:Int} (hd:0<d) (h1:1<=l.length) (h6:l.length<=6) (hl:1<l.length->l.getD (l.length-1) 0≠0) (hin:∀i,Cv (l.getD i 0)):
  Ys (on l 0 d d) (oc l 0 d d) (d^5)=l/\∀i,i<on l 0 d d->∃q,oc l 0 d d i=q*d^5:=by
 have hd5:d^5≠0:=Int.ne_of_gt (Int.pow_pos hd)
 rcases zM hd h1 h6 hl with⟨e1,e2⟩|⟨e1,e2⟩
 refine⟨xD (by rw[aQ,e1];omega) λq hq=>?_,λi hi=>⟨_,e2 i ω⟩⟩
 rw[aQ,e1] at hq
 rw[tH,Jm,e1,if_pos ω,e2 q ω,Int.mul_ediv_cancel _ hd5,Afn (hin q)]
 refine⟨?_,λi hi=>by omega⟩
 rw[e2,e1]
 rfl
theorem bU {s:Sg} (hs:Ty s) (ho:Hf s) (h1:s.o=1):Ht s s.f s.t=s/\Vx s s.f s.t=false:=by
 have hh:=ho.1
 unfold Ki at hh
 have hd:0<pD s:=by show 0<s.t-s.f;omega
 have hd5:0<pD s^5:=Int.pow_pos hd
 obtain⟨x1,x2⟩:=Uo hd ho.2.1.1 ho.2.1.2.1 ho.2.1.2.2.1 hs.x
 obtain⟨y1,y2⟩:=Uo hd ho.2.2.1.1 ho.2.2.1.2.1 ho.2.2.1.2.2.1 hs.y
 obtain⟨z1,z2⟩:=Uo hd ho.2.2.2.1.1 ho.2.2.2.1.2.1 ho.2.2.2.1.2.2.1 hs.z
 have e0:s.f-s.f=0:=by omega
 have e1:s.t-s.f=pD s:=rfl
 have g:gM (on s.x 0 (pD s) (pD s)) (on s.y 0 (pD s) (pD s)) (on s.z 0 (pD s) (pD s)) (oc s.x 0 (pD s) (pD s)) (oc s.y 0 (pD s) (pD s)) (oc s.z 0 (pD s) (pD s)) (1*pD s^5)=pD s^5:=by
  unfold gM
  rw[Int.one_mul,Vf hd5 _ x2,Vf hd5 _ y2,Vf hd5 _ z2]
 have q1:(1*pD s^5)/pD s^5=1:=by rw[Int.one_mul];exact Int.ediv_self (Int.ne_of_gt hd5)
 constructor
 unfold Ht uF
 rw[e0,e1,h1,g,q1,x1,y1,z1]
 exact AeF rfl rfl h1.symm rfl rfl rfl
 unfold Vx uE
 rw[e0,e1,h1,g,q1]
 decide
theorem mC {l:List Sg} {f t:Int}:∀n,Jg l f t n=[]->∀i,i<n->¬pA l f i<pB l t i
 |0,_,i,hi=>absurd hi (Nat.not_lt_zero i)
 |n+1,h,i,hi=>by
  by_cases hlt:pA l f n<pB l t n
  rw[Mx hlt] at h;simp at h
  rw[Oz hlt] at h
  by_cases e:i=n
  subst e;exact hlt
  exact mC n h i ω
theorem AcI {l:List Sg} {f t:Int} (hok:Fx l) (hf:(l.getD 0 Sg.none).f<=f) (hft:f<t) (ht:t<=(l.getD (l.length-1) Sg.none).t):0<(Jg l f t l.length).length:=by
 rcases Nat.eq_zero_or_pos (Jg l f t l.length).length with h|h
 exfalso
 have hn:=mC _ (List.eq_nil_of_length_eq_zero h)
 have key:∀i,i<l.length->(l.getD i Sg.none).t<=f:=by
  intro i
  induction i with
  |zero=>
   intro hi
   have:=hn 0 hi
   have:¬max f (l.getD 0 Sg.none).f<min t (l.getD 0 Sg.none).t:=this
   omega
  |succ i ih=>
   intro hi
   have h1:=ih ω
   have h2:=((hok.1 (i+1) hi).2 (Nat.succ_pos i)).1
   rw[Nat.add_sub_cancel] at h2
   have:¬max f (l.getD (i+1) Sg.none).f<min t (l.getD (i+1) Sg.none).t:=hn (i+1) hi
   omega
 have:=key (l.length-1) (by have:=hok.2.1;omega)
 omega
 exact h
end Go.Proofs.YtldnjomacnjhnaaGreat
namespace Go.Proofs.YtldnjomacnjhnaaGreat
open Go.RowKit
def rG (p:Pr) (i k:Nat):Nat->List Sg
 |0=>[]
 |m+1=>rG p i k m++Hb p (k+m) (Br p.acts (k+m)) i
theorem nW (p:Pr) (i k:Nat):∀m,Iy p (k+m) i=Iy p k i++rG p i k m
 |0=>(List.append_nil _).symm
 |m+1=>by
  show Iy p (k+m) i++_=_
  rw[nW p i k m,List.append_assoc];rfl
theorem tR (p:Pr) (k i:Nat):(Eh p (k+1)).getD i V3.zero=((p.acts.getD k Ac.none).moves.getD i Mv.none).to:=by
 unfold Eh
 rw[if_neg (Nat.succ_ne_zero k),Nat.add_sub_cancel]
 show ((p.acts.getD k Ac.none).moves.map (·.to)).getD i V3.zero=_
 generalize (p.acts.getD k Ac.none).moves=ms
 rw[List.getD_eq_getElem?_getD,List.getElem?_map,List.getD_eq_getElem?_getD]
 cases ms[i]?<;>rfl
theorem bT {p:Pr} (ho:Yp p) {i:Nat} (hi:i<p.names.length) (k:Nat):∀m,k+m<=p.acts.length->Bv (rG p i k m) ((Eh p k).getD i V3.zero) ((Eh p (k+m)).getD i V3.zero) (Br p.acts k) (Br p.acts (k+m))
 |0,_=>⟨rfl,rfl⟩
 |m+1,hk=>by
  refine Bv.app (bT ho hi k m ω) ?_
  have h2:=Yi (ho.pe (k+m) i ω hi)
  rw[show k+(m+1)=k+m+1 from rfl,tR]
  exact h2
theorem nX (p:Pr) (i k:Nat):∀m,(rG p i k m).length<=5*m
 |0=>Nat.zero_le _
 |m+1=>by
  have h1:=nX p i k m
  have h2:=Ta p (k+m) (Br p.acts (k+m)) i
  rw[rG,List.length_append];omega
def AbE (p:Pr) (i k:Nat):List Sg:=rG p i k (p.acts.length-k)
theorem yL {p:Pr} {k:Nat} (i:Nat) (hk:k<=p.acts.length):Iy p p.acts.length i=Iy p k i++AbE p i k:=by
 have:=nW p i k (p.acts.length-k)
 rwa [show k+(p.acts.length-k)=p.acts.length by omega] at this
theorem oI {p:Pr} (ho:Yp p) {i:Nat} (hi:i<p.names.length) {k:Nat} (hk:k<=p.acts.length):Bv (AbE p i k) ((Eh p k).getD i V3.zero) ((Eh p p.acts.length).getD i V3.zero) (Br p.acts k) (Br p.acts p.acts.length):=by
 have:=bT ho hi k (p.acts.length-k) ω
 rwa [show k+(p.acts.length-k)=p.acts.length by omega] at this
theorem Bv.okP {l:List Sg} {a b:V3} {f t:Int} (h:Bv l a b f t) (hp:0<l.length) (hn:l.length<=256):Fx l/\Dn l:=
 ⟨⟨λj hj=>⟨(h.seg j hj).1,(h.seg j hj).2.2.2⟩,hp,hn⟩,ω,λj=>by
  by_cases hj:j<l.length
  exact(h.seg j hj).2.1
  have e:l.getD j Sg.none=Sg.none:=by rw[List.getD_eq_getElem?_getD,List.getElem?_eq_none ω];rfl
  rw[e];exact Dn.nil.2 0⟩
theorem Bv.le:∀{l:List Sg} {a b:V3} {f t:Int},Bv l a b f t->f<=t
 |[],_,_,_,_,⟨_,e⟩=>by omega
 |_::_,_,_,_,_,⟨_,_,h,hr⟩=>by have:=h.ft;have:=Bv.le hr;omega
theorem Bv.nil_of {l:List Sg} {a b:V3} {f:Int} (h:Bv l a b f f):l=[]:=by
 match l,h with
 |[],_=>rfl
 |_::_,⟨_,_,h,hr⟩=>have:=h.ft;have:=Bv.le hr;omega
theorem Jt {l r:List Sg} {a b c:V3} {f t u:Int} (h1:Bv l a b f t) (h2:Bv r b c t u) (p1:0<l.length) (p2:0<r.length) (hn:l.length+r.length<=256):Om l r=(l++r,0):=by
 have h:=(h1.app h2).seg l.length (by rw[List.length_append];omega)
 have hm:=h.2.2.2 p1
 rw[Lg,Lg,if_pos ω,if_neg (Nat.lt_irrefl _),Nat.sub_self] at hm
 exact Aa0 (Ee (h1.okP p1 ω).1) (Ee (h2.okP p2 ω).1) (Ee hm) ω
theorem Bv.times:∀{l:List Sg} {a b:V3} {f t:Int},Bv l a b f t->∀i,i<l.length->f<=(l.getD i Sg.none).f/\(l.getD i Sg.none).t<=t
 |s::r,_,_,f,t,⟨c,u,h,hr⟩,0,_=>by
  have:=hr.le
  exact⟨by show f<=s.f;rw[h.rows.2.2.2.1];omega,by show s.t<=t;rw[h.rows.2.2.2.2.1];omega⟩
 |s::r,_,_,f,t,⟨c,u,h,hr⟩,i+1,hi=>by
  have h1:=Bv.times hr i (by simpa using hi)
  have:=h.ft
  exact⟨by show f<=(r.getD i Sg.none).f;omega,h1.2⟩
theorem AaG {l r:List Sg} {a b c:V3} {f t u:Int} (h1:Bv l a b f t) (h2:Bv r b c t u):mB (l++r) t u=(r,0):=by
 have hl:∀i,i<l.length->¬pA (l++r) t i<pB (l++r) u i:=λi hi=>by
  have:=h1.times i hi
  show ¬max t ((l++r).getD i Sg.none).f<min u ((l++r).getD i Sg.none).t
  rw[Lg,if_pos hi];omega
 have hr:∀i,i<r.length->(l++r).getD (l.length+i) Sg.none=r.getD i Sg.none/\pA (l++r) t (l.length+i)=(r.getD i Sg.none).f/\pB (l++r) u (l.length+i)=(r.getD i Sg.none).t/\(r.getD i Sg.none).f<(r.getD i Sg.none).t:=λi hi=>by
  have h3:=h2.times i hi
  have e:(l++r).getD (l.length+i) Sg.none=r.getD i Sg.none:=by rw[Lg,if_neg ω,Nat.add_sub_cancel_left]
  have h4:=((h2.seg i hi).1).1
  unfold Ki at h4
  refine⟨e,?_,?_,ω⟩
  show max t ((l++r).getD (l.length+i) Sg.none).f=_
  rw[e];omega
  show min u ((l++r).getD (l.length+i) Sg.none).t=_
  rw[e];omega
 have e1:∀n,n<=l.length->Jg (l++r) t u n=[]:=by
  intro n
  induction n with
  |zero=>intro _;rfl
  |succ n ih=>intro hn;rw[Oz (hl n ω),ih ω]
 have e2:∀n,n<=r.length->Jg (l++r) t u (l.length+n)=r.take n:=by
  intro n
  induction n with
  |zero=>intro _;rw[Nat.add_zero,e1 _ (Nat.le_refl _),List.take_zero]
  |succ n ih=>
   intro hn
   obtain⟨g1,g2,g3,g4⟩:=hr n ω
   have h3:=h2.seg n ω
   rw[show l.length+(n+1)=l.length+n+1 from rfl,Mx (by rw[g2,g3];exact g4),g1,g2,g3,(bU h3.2.1 h3.1 h3.2.2.1).1,ih ω,List.take_succ_eq_append_getElem ω]
   congr 2
   simp[List.getD_eq_getElem?_getD,show n<r.length by omega]
 have hk:Xw (l++r) t u (l++r).length:=λj hj hlt=>by
  by_cases h:j<l.length
  exact absurd hlt (hl j h)
  have hj2:j<l.length+r.length:=by rw[<-List.length_append];exact hj
  obtain⟨m,rfl⟩:∃m,j=l.length+m:=⟨j-l.length,ω⟩
  obtain⟨g1,g2,g3,g4⟩:=hr m ω
  have h3:=h2.seg m ω
  rw[g1,g2,g3]
  exact(bU h3.2.1 h3.1 h3.2.2.1).2
 rw[tJ hk,List.length_append,e2 _ (Nat.le_refl _),List.take_length]
end Go.Proofs.YtldnjomacnjhnaaGreat