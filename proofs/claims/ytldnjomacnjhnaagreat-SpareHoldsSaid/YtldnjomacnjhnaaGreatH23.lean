/- Part 23 of the proof of SH.row_holds, joined by program: no condition beyond the row's own. -/
import Derived.Test.YtldnjomacnjhnaaGreatH22
import Derived.Test.YtldnjomacnjhnaaGreatRows
import Derived.LaidMore
import Derived.OpenShut
import Derived.ShutString
import Derived.ChangeOld
import Derived.Lib.LaidTab
import Derived.Stop.Joined
import Derived.HandedShaped
import Derived.Deep.Fields
set_option maxRecDepth 100000
set_option maxHeartbeats 40000000
namespace Go.Proofs.YtldnjomacnjhnaaGreat.Open
open Go.ChangeShapes Go.WideShapes Go.ChangeAt Go.RowKit Go.Deep
section
variable {H:Type} {enc:TypeId×Value->H} {W:World} {n:Nat} {y:DataW H×List MemPlace} {cs:List Value}
theorem yI (hl:cs.length=3) (h:DataW.trod enc Tryz.prog W 0 (λ_=>true) true n 87 cs=some y):∃a:Ac,Aaz W (rg 0 W.heap.size) a cs/\(a.name.size<=maxLen/\Cm a.len):=by
 match cs,hl with
 |[a,b,c],_=>
  obtain⟨m0,z0,h0⟩:=Gz (ty:=9) (off:=0) Tryz.underlying87 h 0 (by rfl)
  obtain⟨m1,z1,h1⟩:=Gz (ty:=3) (off:=1) Tryz.underlying87 h 1 (by rfl)
  obtain⟨m2,z2,h2⟩:=Gz (ty:=85) (off:=2) Tryz.underlying87 h 2 (by rfl)
  simp only[AaN,Aei,AcT] at h0 h1 h2
  obtain⟨s,e0,_,hs⟩:=DataW.trod_string Tryz.underlying9 h0
  obtain⟨k1,e1,f1⟩:=Gt h1
  obtain⟨ad,len,cap,e2⟩:=Go.Joins.slice_form Tryz.underlying85 h2
  rw[e2] at h2
  obtain⟨l,g1,g2,g3,_⟩:=Mp Tryz.underlying85 Ae5 δ h2
  obtain⟨L,L1,L2⟩:=Vs (cells:=Mv.cells) l (λcs hc=>by obtain⟨hl,n,y,ht⟩:=g2 cs hc;exact yJ hl ht)
  simp at e0 e1 e2
  refine⟨⟨s,k1,L⟩,⟨.slice ad len cap,by simp[e0,e1,e2],?_⟩,hs,f1⟩
  show Cz W _ 6 _ L.length (yB L)
  have hL:L.length=len:=by omega
  rw[hL]
  unfold yB
  rw[<-L2]
  exact g3
theorem lY:∀(l:List (List Value)) (_:∀cs∈l,∃a:Ac,Aaz W (rg 0 W.heap.size) a cs/\(a.name.size<=maxLen/\Cm a.len)),∃L:List Ac,L.length=l.length/\Qt W (rg 0 W.heap.size) L l.flatten/\∀a∈L,(a.name.size<=maxLen/\Cm a.len)
 |[],_=>⟨[],rfl,rfl,by simp⟩
 |cs::l,h=>by
  obtain⟨a,ha,hs⟩:=h cs (by simp)
  obtain⟨L,h1,h2,h3⟩:=lY l (λc hc=>h c (by simp[hc]))
  refine⟨a::L,by simp[h1],⟨cs,l.flatten,by simp,ha,h2⟩,λx hx=>?_⟩
  rcases List.mem_cons.1 hx with rfl|hx
  exact hs
  exact h3 x hx
theorem open_prog2 {v:Value} {d:DataW H} {p:List MemPlace} {base:Nat} (hv:Value.okWide Tryz.prog W .any base 31 v) (h:DataW.Trod enc Tryz.prog W 0 (λ_=>true) true 31 v d p):
  ∃(vn vh va:Value) (pr:Pr),v= .agg #[vn,vh,va]/\Ii W W.heap.size vn vh va pr/\(∀s∈pr.names,s.size<=maxLen)/\(∀a∈pr.acts,(a.name.size<=maxLen/\Cm a.len)):=by
 obtain⟨v0,v1,v2,y0,y1,y2,n,rfl,_,_,h0,h1,h2⟩:=Go.Joins.open_agg3 Tryz.underlying31 κ κ hv h
 obtain⟨a0,l0,c0,e0⟩:=Go.Joins.slice_form Tryz.underlying28 h0
 obtain⟨a1,l1,c1,e1⟩:=Go.Joins.slice_form Tryz.underlying22 h1
 obtain⟨a2,l2,c2,e2⟩:=Go.Joins.slice_form Tryz.underlying29 h2
 obtain rfl:v0= .slice a0 l0 c0:=by simpa using e0
 obtain rfl:v1= .slice a1 l1 c1:=by simpa using e1
 obtain rfl:v2= .slice a2 l2 c2:=by simpa using e2
 obtain⟨N,hN,sN,_,zN⟩:=rQ h0
 obtain⟨lh,g1,g2,g3,_⟩:=Mp Tryz.underlying22 AaO δ h1
 obtain⟨Hm,H1,H2⟩:=Vs (cells:=λv:V3=>[.int .i64 v.x,.int .i64 v.y,.int .i64 v.z]) lh (λcs hc=>by obtain⟨hl,n,y,ht⟩:=g2 cs hc;exact bT hl ht)
 obtain⟨la,k1,k2,k3,_⟩:=Mp Tryz.underlying29 Af1 δ h2
 obtain⟨Ac,A1,A2,A3⟩:=lY la (λcs hc=>by obtain⟨hl,n,y,ht⟩:=k2 cs hc;exact yI hl ht)
 refine⟨_,_,_,⟨N,Hm,Ac⟩,rfl,⟨sN,?_,la.flatten,?_,A2⟩,zN,A3⟩
 have hL:Hm.length=l1:=by omega
 show Cc W 0 W.heap.size 3 _ Hm.length (Jf Hm)
 rw[hL]
 unfold Jf
 rw[<-H2]
 exact g3
 have hL:Ac.length=l2:=by omega
 show Cc W 0 W.heap.size 3 _ Ac.length _
 rw[hL]
 exact k3
theorem oD {a0:Option Addr} {len0 cap0 fuel:Nat} {t e:TypeId} (ht:Tryz.prog.underlying t=some (.slice e)) (h:DataW.trod enc Tryz.prog W 0 (λ_=>true) true fuel t [.slice a0 len0 cap0]=some y):len0<=cap0:=by
 rcases open_slice ht h with⟨hcs,_⟩|⟨x,n,c,m,nn,D,Pl,hcs,_,hl,hm,hmm,_,hi⟩
 simp at hcs
 obtain⟨rfl,rfl,rfl⟩:=hcs
 exact Nat.le_refl _
 simp at hcs
 obtain⟨rfl,rfl,rfl⟩:=hcs
 have hmm':m=cap0:=by simpa using hmm
 omega
theorem open_case {v:Value} {d:DataW H} {p:List MemPlace} {base:Nat} (hv:Value.okWide Tryz.prog W .any base 33 v) (h:DataW.Trod enc Tryz.prog W 0 (λ_=>true) true 33 v d p):
  ∃c:Cs,v= .agg #[.int .i64 c.craft,.int .i64 c.act]/\Oo c:=by
 obtain⟨v0,v1,y0,y1,n,rfl,_,_,h0,h1⟩:=Go.Joins.open_agg2 Tryz.underlying33 κ κ hv h
 obtain⟨k0,e0,f0⟩:=Gt h0
 obtain⟨k1,e1,f1⟩:=Gt h1
 simp at e0 e1
 exact⟨⟨k0,k1⟩,by simp[e0,e1],⟨f0,f1⟩⟩
end
end Go.Proofs.YtldnjomacnjhnaaGreat.Open
namespace Go.Proofs.YtldnjomacnjhnaaGreat
open Go.RowKit
theorem vW {w:World} {D:Nat->Prop} {l:List V3} {v:Value} (h:Cz w D 3 v l.length (Jf l)) {E:Bu} (hw:E.w=w) (hD:∀b,D b->E.D b):VR E (Hn l) v:=
 Oa h hw hD λi j hi hj=>by
  have:=Ml (λv:V3=>[Value.int .i64 v.x,.int .i64 v.y,.int .i64 v.z]) 3 (λ_=>rfl) l i j V3.zero hi hj
  unfold Jf
  rw[this]
  match j,hj with
  |0,_=>exact .lit _ _
  |1,_=>exact .lit _ _
  |2,_=>exact .lit _ _
theorem AeK {w:World} {D:Nat->Prop} {l:List Mv} {v:Value} (h:Cz w D 6 v l.length (yB l)) {E:Bu} (hw:E.w=w) (hD:∀b,D b->E.D b):VR E (Ads l) v:=
 Oa h hw hD λi j hi hj=>by
  have:=Ml Mv.cells 6 (λ_=>rfl) l i j Mv.none hi hj
  unfold yB
  rw[this]
  match j,hj with
  |0,_=>exact .lit _ _
  |1,_=>exact .lit _ _
  |2,_=>exact .lit _ _
  |3,_=>exact .lit _ _
  |4,_=>exact .lit _ _
  |5,_=>exact .lit _ _
theorem Ab9 {w:World} {D:Nat->Prop} {l:List ByteArray} {v:Value} (h:Cz w D 1 v l.length (strs l)) {E:Bu} (hw:E.w=w) (hD:∀b,D b->E.D b):VR E (Fd l) v:=
 Oa h hw hD λi j hi hj=>by
  obtain rfl:j=0:=by omega
  have e:(strs l).getD (i*1+0) undef= .string (l.getD i ByteArray.empty):=by simp[strs,List.getD_eq_getElem?_getD,hi]
  rw[e]
  exact .lit _ _
theorem AcN {w:World} {D:Nat->Prop} {l:List Ac} {v:Value} {cs:List Value} (h:Cz w D 3 v l.length cs) (ha:Qt w D l cs) {E:Bu} (hw:E.w=w) (hD:∀b,D b->E.D b):VR E (Gq l) v:=
 Oa h hw hD λi j hi hj=>by
  obtain⟨vm,hm,hat⟩:=ha.at_ hi
  have e:l.getD i Ac.none=l[i]:=by rw[List.getD_eq_getElem?_getD,List.getElem?_eq_getElem hi];rfl
  have g:∀u,[Value.string l[i].name,.int .i64 l[i].len,vm][j]?=some u->cs.getD (i*3+j) undef=u:=λu hu=>by
   rw[List.getD_eq_getElem?_getD,hat j u hu];rfl
  rw[e]
  match j,hj with
  |0,_=>rw[g _ rfl];exact .lit _ _
  |1,_=>rw[g _ rfl];exact .lit _ _
  |2,_=>rw[g _ rfl];exact AeK (E:=E.fz) hm hw hD
theorem Ad6 {w:World} {hi:Nat} {vn vh va:Value} {p:Pr} (h:Ii w hi vn vh va p) {E:Bu} (hw:E.w=w) (hD:∀b,b<hi->E.D b):VR E (Ff p) (.agg #[vn,vh,va]):=by
 obtain⟨cs,k1,k2⟩:=h.acts
 have hD2:∀b,rg 0 hi b->E.D b:=λb hb=>hD b hb.2
 refine .agg _ _ _ rfl λi hi=>?_
 have h3:i<3:=hi
 match i,h3 with
 |0,_=>exact Ab9 h.names hw hD2
 |1,_=>exact vW h.homes hw hD2
 |2,_=>exact AcN k1 k2 hw hD2
theorem AF.call {P:Program} {f:FuncId} {args:List AV} {v:Value} (h:AF P f args (.lit v)) (W:World) (vs:Array Value) (hn:vs.size=args.length) (hv:∀E:Bu,E.w=W->(∀b,b<W.heap.size->E.D b)->∀i,i<args.length->VR E (args.getD i .top) (vs.getD i undef)):Calls P f vs W λe w'=>e= .returned v/\Below W.heap.size W w':=by
 refine(h { π:=λ_=>0,cap:=λ_=>0,A:=λ_=>False,D:=λb=>b<W.heap.size,w:=W } vs (λb hb=>hb) hn λi hi=>hv _ rfl (λb hb=>hb) i hi).mono ?_
 rintro e w' ⟨u,D',rfl,hr,hb,_⟩
 exact⟨by rw[hr.lit_inv],hb⟩
end Go.Proofs.YtldnjomacnjhnaaGreat
namespace Go.Proofs.YtldnjomacnjhnaaGreat
end Go.Proofs.YtldnjomacnjhnaaGreat
namespace Go.Proofs.YtldnjomacnjhnaaGreat
open Go.Proofs.Tryz
open Go.RowKit
theorem xP {a b:List Int} (h:a.length=b.length) (hq:∀q,q<a.length->a.getD q 0=b.getD q 0):a=b:=by
 refine List.ext_getElem h λi h1 h2=>?_
 have:=hq i h1
 rwa [List.getD_eq_getElem?_getD,List.getD_eq_getElem?_getD,List.getElem?_eq_getElem h1,List.getElem?_eq_getElem h2] at this
theorem AeX {s t:Sg} (h1:s.f=t.f) (h2:s.t=t.t) (h3:s.o=t.o) (h4:s.x=t.x) (h5:s.y=t.y) (h6:s.z=t.z):s=t:=by
 cases s;cases t;simp_all
theorem Aav {f:FuncId} {args args':List AV} {r r':AV} (h:AF Tryz.prog f args r) (hl:args'.length=args.length) (ha:∀i,i<args.length->∀E v,VR E (args'.getD i .top) v->VR E (args.getD i .top) v) (hr:∀E v,VR E r v->VR E r' v):AF Tryz.prog f args' r':=λE vs hD hn hv=>by
 refine Calls.mono (h E vs hD ω λi hi=>ha i hi _ _ (hv i ω)) ?_
 rintro e w' ⟨v,D',h1,h2,h3⟩
 exact⟨v,D',h1,hr _ _ h2,h3⟩
theorem gW (l:List V3) (n:Nat) (v:V3) (hn:n<=1000000):AF Tryz.prog 34 [.slc 3 n λi=>Eg (l.getD i V3.zero),Eg v] (.bool (bP (∃q,q<n/\(l.getD q V3.zero).x=v.x/\(l.getD q V3.zero).y=v.y/\(l.getD q V3.zero).z=v.z))):=
 Aav (lE l n v hn) rfl (λi hi E u h=>by
  match i,hi with
  |0,_=>cases h;assumption
  |1,_=>exact h) λ_ _ h=>h
theorem eJ (l:List Int) (M:Int) (hl:l.length<=1000000):AF Tryz.prog 35 [Fi l,.int 0,.int M] (.bool (bP (Ty l M))):=by
 refine Cr func35 rfl λB D0 hA0=>?_
 refine Ae 12 (Gi 12 ((l.length:Int)<1) (λhx1 hx1d=>?_) (λhx1 hx1d=>?_))
 ·
  exact Ae 31 (Hs (.bool false) (congrArg AV.bool (Bq (by rintro⟨g1,g2,g3⟩;first|omega|(have:=(g3 0 ω).1;omega)|(have:=(g3 (l.length-1) ω).2.1;omega)|(have:=(g3 (1+k) ω).2.2 ω;rw[Nat.add_sub_cancel_left] at this;omega))).symm))
 ·
  refine Ae 5 (Gi 17 ((16:Int)<(l.length:Int)) (λhx2 hx2d=>?_) (λhx2 hx2d=>?_))
  ·
   exact Ae 26 (Hs (.bool false) (congrArg AV.bool (Bq (by rintro⟨g1,g2,g3⟩;first|omega|(have:=(g3 0 ω).1;omega)|(have:=(g3 (l.length-1) ω).2.1;omega)|(have:=(g3 (1+k) ω).2.2 ω;rw[Nat.add_sub_cancel_left] at this;omega))).symm))
  ·
   refine Ae 1 (Fl 0 l.length (Ae 5 (Gi 24 ((l).getD 0 0<0) (λhx3 hx3d=>?_) (λhx3 hx3d=>?_))))
   ·
    exact Ae 19 (Hs (.bool false) (congrArg AV.bool (Bq (by rintro⟨g1,g2,g3⟩;first|omega|(have:=(g3 0 ω).1;omega)|(have:=(g3 (l.length-1) ω).2.1;omega)|(have:=(g3 (1+k) ω).2.2 ω;rw[Nat.add_sub_cancel_left] at this;omega))).symm))
   ·
    refine Ae 3 (Ep ((l.length:Int)-1) ((l.length-1:Nat):Int) (Fl (l.length-1) l.length (Ae 6 (Gi 33 (M<(l).getD (l.length-1) 0) (λhx4 hx4d=>?_) (λhx4 hx4d=>?_)))))
    ·
     exact Ae 8 (Hs (.bool false) (congrArg AV.bool (Bq (by rintro⟨g1,g2,g3⟩;first|omega|(have:=(g3 0 ω).1;omega)|(have:=(g3 (l.length-1) ω).2.1;omega)|(have:=(g3 (1+k) ω).2.2 ω;rw[Nat.add_sub_cancel_left] at this;omega))).symm))
    ·
     refine Ae 7 (Bk (.sl 1 (l.length-1) (λxi=>(λi0=> .int ((l).getD i0 0)) (1+xi))) .none (jX 23 (.tmp 34) (some (.const (.int .i64 1))) none κ underlying23 1 l.length sizeOf3 (λi0=> .int ((l).getD i0 0)) κ 1 l.length (.inr ⟨(.const (.int .i64 1)),1,rfl,κ,ω⟩) (.inl ⟨rfl,rfl⟩) ω ω) (Ae 5 (Pe [0,35,36,37] (l.length-1) (λk=>∀q,q<k->l.getD q 0<l.getD (1+q) 0) (λk=>⟨[(0,Fi l),(35,.sl 1 (l.length-1) (λxi=>(λi0=> .int ((l).getD i0 0)) (1+xi))),(36,.int ((l.length-1:Nat):Int)),(37,.int (k:Int))],[],0,49⟩) (λq hq=>absurd hq (Nat.not_lt_zero q)) (λk hkn hFk J1 hJ1=>?_))))
     refine Ae 6 (Gi 38 ((k:Int)<((l.length-1:Nat):Int)) (λhx5 hx5d=>?_) (λhx5 hx5d=>?_))
     ·
      refine Ae 8 (Fl k (l.length-1) (Ae 10 (Fl k l.length (Ae 4 (Gi 47 ((l).getD (1+k) 0<=(l).getD k 0) (λhx6 hx6d=>?_) (λhx6 hx6d=>?_))))))
      ·
       exact Ae 12 (Hs (.bool false) (congrArg AV.bool (Bq (by rintro⟨g1,g2,g3⟩;first|omega|(have:=(g3 0 ω).1;omega)|(have:=(g3 (l.length-1) ω).2.1;omega)|(have:=(g3 (1+k) ω).2.2 ω;rw[Nat.add_sub_cancel_left] at this;omega))).symm))
      ·
       exact Ae 5 (Ep ((k:Int)+1) ((k+1:Nat):Int) (Ae 2 (Om [0,35,36,37] (hJ1 ω (λq hq=>(Nat.lt_or_ge q k).elim (λg=>hFk q g) λg=>by have e:q=k:=(ω);subst e;omega)))))
     ·
      exact Ae 12 (Hs (.bool true) (congrArg AV.bool (Dz (AdD ω ω ω ω (λi hi=>hFk i ω))).symm))
theorem Ti (r:Rv) (hr:Tz r):AF Tryz.prog 11 [Ie r] (.bool (bP (Ng r))):=by
 have h1:=hr.n
 have h2:=hr.w
 have h3:=hr.s
 refine Cr func11 rfl λB D0 hA0=>?_
 refine Ae 14 (Gi 9 ((r.homes.length:Int)<1) (λhx1 hx1d=>?_) (λhx1 hx1d=>?_))
 ·
  exact Ae 31 (Hs (.bool false) (congrArg AV.bool (Bq (by rintro⟨⟨g5,g6,g7,g8,g9⟩,g2,g3,g4⟩;first|omega|(have:=(g2 i ω).2 j ω;omega))).symm))
 ·
  refine Ae 6 (Gi 15 ((8:Int)<(r.homes.length:Int)) (λhx2 hx2d=>?_) (λhx2 hx2d=>?_))
  ·
   exact Ae 25 (Hs (.bool false) (congrArg AV.bool (Bq (by rintro⟨⟨g5,g6,g7,g8,g9⟩,g2,g3,g4⟩;first|omega|(have:=(g2 i ω).2 j ω;omega))).symm))
  ·
   refine Ae 5 (Gi 20 (r.flight<4) (λhx3 hx3d=>?_) (λhx3 hx3d=>?_))
   ·
    exact Ae 20 (Hs (.bool false) (congrArg AV.bool (Bq (by rintro⟨⟨g5,g6,g7,g8,g9⟩,g2,g3,g4⟩;first|omega|(have:=(g2 i ω).2 j ω;omega))).symm))
   ·
    refine Ae 5 (Gi 25 ((3600000:Int)<r.flight) (λhx4 hx4d=>?_) (λhx4 hx4d=>?_))
    ·
     exact Ae 15 (Hs (.bool false) (congrArg AV.bool (Bq (by rintro⟨⟨g5,g6,g7,g8,g9⟩,g2,g3,g4⟩;first|omega|(have:=(g2 i ω).2 j ω;omega))).symm))
    ·
     refine Ae 2 (Ip (.int .i64 (Int.tmod r.flight 4)) (.int .i64 (tm4 r.flight)) ?_ rfl)
     refine Ae 4 (Aeb 30 (tm4 r.flight=0) (λhx5 hx5d=>?_) (λhx5 hx5d=>?_))
     ·
      refine Ae 13 (Pe [1,32,33,34] r.homes.length (λi=>∀q,q<i->En 1048576 [(r.homes.getD q V3.zero).x,(r.homes.getD q V3.zero).y,(r.homes.getD q V3.zero).z]=true/\∀j,j<q->¬((r.homes.getD j V3.zero).x=(r.homes.getD q V3.zero).x/\(r.homes.getD j V3.zero).y=(r.homes.getD q V3.zero).y/\(r.homes.getD j V3.zero).z=(r.homes.getD q V3.zero).z)) (λi=>⟨[(1,.ptr 0 0),(32,Qn r.homes),(33,.int (r.homes.length:Int)),(34,.int (i:Int))],[(0,.box 25 [Qn r.homes,.int r.flight,Fi r.waits,Fi r.rises])],1,59⟩) (λq hq=>absurd hq (Nat.not_lt_zero q)) (λi hin hFi J1 hJ1=>?_))
      refine Ae 6 (Gi 35 ((i:Int)<(r.homes.length:Int)) (λhx6 hx6d=>?_) (λhx6 hx6d=>?_))
      ·
       refine Ae 8 (Fl i r.homes.length (Ae 7 ?_))
       refine Fm (En 1048576 [(r.homes.getD i V3.zero).x,(r.homes.getD i V3.zero).y,(r.homes.getD i V3.zero).z]) (λhx7=>?_) (λhx7=>?_)
       ·
        refine Jb [(1,.bool true,.none),(7,.slc 3 i (λi0=>Eg (r.homes.getD i0 V3.zero)),.none),(9,_,.none)] [1,32,33,34,49] ⟨kbC hx7 (El (aA (r.homes.getD i V3.zero))),Au (Tn 22 (.tmp 44) (.tmp 45) κ underlying22 3 r.homes.length sizeOf36 (λi0=>Eg (r.homes.getD i0 V3.zero)) κ i (i:Int) κ ω ω),El (gW r.homes i (r.homes.getD i V3.zero) ω),trivial⟩ (Ae 1 (zX 49 (bP (∃q,q<i/\(r.homes.getD q V3.zero).x=(r.homes.getD i V3.zero).x/\(r.homes.getD q V3.zero).y=(r.homes.getD i V3.zero).y/\(r.homes.getD q V3.zero).z=(r.homes.getD i V3.zero).z)) (λhx8=>?_) (λhx8=>?_)))
        ·
         exact Ae 12 (Hs (.bool false) (congrArg AV.bool (Bq (by rintro⟨⟨g5,g6,g7,g8,g9⟩,g2,g3,g4⟩;first|omega|(obtain⟨q,hq,hc⟩:=Ib hx8;exact(g2 i ω).2 q hq hc)|(have:=(g2 i ω).2 j ω;omega))).symm))
        ·
         exact Ae 5 (Ep ((i:Int)+1) ((i+1:Nat):Int) (Ae 2 (Ha [1,32,33,34] [(0,0)] 1 0 hA0 [] trivial (hJ1 ω (λq hq=>(Nat.lt_or_ge q i).elim (λg=>hFi q g) λg=>by have e:q=i:=(ω);subst e;exact⟨hx7,λj hj hc=>Qy hx8 ⟨j,hj,hc⟩⟩)))))
       ·
        exact Jb [(1,.bool false,.none)] [1,32,33,34,49] ⟨kbC hx7 (El (aA (r.homes.getD i V3.zero))),trivial⟩ (Ae 13 (Hs (.bool false) (congrArg AV.bool (Bq (by rintro⟨⟨g5,g6,g7,g8,g9⟩,g2,g3,g4⟩;first|omega|(have g:=(g2 i ω).1;rw[hx7] at g;exact Bool.noConfusion g)|(have:=(g2 i ω).2 j ω;omega))).symm)))
      ·
       refine Ae 10 (Cf (eJ r.waits 3600000 ω) (Ae 1 (zX 54 (bP (Ty r.waits 3600000)) (λhx9=>?_) (λhx9=>?_))))
       ·
        exact Ae 2 (Cf (eJ r.rises 1048576 ω) (Ae 5 (Hs (.bool (bP (Ty r.rises 1048576))) (congrArg AV.bool (Aef ⟨λg=>⟨⟨ω,ω,ω,ω,ω⟩,λq hq=>hFi q ω,Ib hx9,g⟩,λg=>g.2.2.2⟩)))))
       ·
        exact Ae 8 (Hs (.bool false) (congrArg AV.bool (Bq (by rintro⟨⟨g5,g6,g7,g8,g9⟩,g2,g3,g4⟩;first|omega|exact Qy hx9 g3|(have:=(g2 i ω).2 j ω;omega))).symm))
     ·
      exact Ae 8 (Hs (.bool false) (congrArg AV.bool (Bq (by rintro⟨⟨g5,g6,g7,g8,g9⟩,g2,g3,g4⟩;first|omega|(have:=(g2 i ω).2 j ω;omega))).symm))
abbrev pH (v:V3):Value:= .agg #[.int .i64 v.x,.int .i64 v.y,.int .i64 v.z]
def dZ (p:Pr) (r:Rv) (c:Cs) (w:Int):AV:=
 if Nj p c (Lf p r c w)<p.acts.length then .lit (.tuple #[.int .i64 (Ao p c+w),.int .i64 (Ao p c+w+r.flight),.int .i64 (Nj p c (Lf p r c w):Int),.int .i64 (Av p.acts (Nj p c (Lf p r c w)+1)),pH (oY p c (Nj p c (Lf p r c w)))])
 else .lit (.tuple #[.int .i64 (Ao p c+w),.int .i64 (Ao p c+w+r.flight),.int .i64 (-1),.int .i64 (Av p.acts p.acts.length),.agg #[.int .i64 0,.int .i64 0,.int .i64 0]])
theorem AbR {p:Pr} {r:Rv} {c:Cs} {w:Int} {i:Nat} (hi:i<p.acts.length) (h1:c.act.toNat+1<=i) (h3:∀q,c.act.toNat+1<=q->q<i->Av p.acts (q+1)<Lf p r c w) (h4:Lf p r c w<=Av p.acts (i+1)):dZ p r c w= .lit (.tuple #[.int .i64 (Ao p c+w),.int .i64 (Ao p c+w+r.flight),.int .i64 (i:Int),.int .i64 (Av p.acts (i+1)),pH (oY p c i)]):=by
 have e:=vS (p:=p) (c:=c) h1 ω h3 (.inr h4)
 rw[dZ,e,if_pos hi]
theorem AdC {p:Pr} {r:Rv} {c:Cs} {w:Int} (h1:c.act.toNat+1<=p.acts.length) (h3:∀q,c.act.toNat+1<=q->q<p.acts.length->Av p.acts (q+1)<Lf p r c w):dZ p r c w= .lit (.tuple #[.int .i64 (Ao p c+w),.int .i64 (Ao p c+w+r.flight),.int .i64 (-1),.int .i64 (Av p.acts p.acts.length),.agg #[.int .i64 0,.int .i64 0,.int .i64 0]]):=by
 have e:=vS (p:=p) (c:=c) h1 (Nat.le_refl _) h3 (.inl rfl)
 rw[dZ,e,if_neg (Nat.lt_irrefl _)]
theorem On (p:Pr) (r:Rv) (c:Cs) (w:Int) (hp:Kp p) (hc:Hy p c) (hcs:Oo c) (hr:Ng r) (hw:0<=w/\w<=3600000):AF Tryz.prog 39 [Ff p,Ie r,Ja c,.int w] (dZ p r c w):=by
 have ho:=Du hc.1
 have hv1:=hc.2.1
 have hv2:=hc.2.2.1
 have hv3:=hc.2.2.2.1
 have hv4:=hc.2.2.2.2
 have hac:=ho.acts
 have hfl:=hr.1
 have he:=ho.ends (c.act.toNat+1) ω
 have hce:Ao p c=Av p.acts (c.act.toNat+1):=rfl
 have har:Lf p r c w=Ao p c+w+r.flight:=rfl
 refine Cr func39 rfl λB D0 hA0=>?_
 refine Ae 17 (Cf (qB p c hp hcs hc) (Ae 10 (Ep (Ao p c+w) (Ao p c+w) (Ae 8 (Ep (Ao p c+w+r.flight) (Ao p c+w+r.flight) (Ae 8 (Ep (Ao p c+w-w) (Av p.acts (c.act.toNat+1)) (Ae 11 (Ep (c.act+1) ((c.act.toNat+1:Nat):Int) (Ae 4 (Pe [4,6,8,9,10,11,12,13] (p.acts.length-(c.act.toNat+1)) (λk=>∀q,c.act.toNat+1<=q->q<c.act.toNat+1+k->Av p.acts (q+1)<Lf p r c w) (λk=>⟨[(4,.ptr 0 0),(6,.ptr 2 0),(8,.int (Ao p c+w)),(9,.int (Ao p c+w+r.flight)),(10,.int (-1)),(11,.int (Av p.acts (c.act.toNat+1+k))),(12,.ptr 3 0),(13,.int ((c.act.toNat+1+k:Nat):Int))],[(0,.box 31 [Fd p.names,Hn p.homes,Gq p.acts]),(1,.box 25 [Qn r.homes,.int r.flight,Fi r.waits,Fi r.rises]),(2,.box 33 [.int c.craft,.int c.act]),(3,.box 36 [.int 0,.int 0,.int 0])],4,68⟩) (λq h1 h2=>absurd h2 ω) (λk hkn hFk J1 hJ1=>?_))))))))))))
 refine Ae 10 (Gi 37 (((c.act.toNat+1+k:Nat):Int)<(p.acts.length:Int)) (λhx1 hx1d=>?_) (λhx1 hx1d=>?_))
 ·
  refine Ae 5 ?_
  have he2:=ho.ends (c.act.toNat+1+k) ω
  have hl:=getD_in hp.lens (c.act.toNat+1+k)
  have hmv:=ho.mv (c.act.toNat+1+k) ω
  refine Ae 6 (Fl (c.act.toNat+1+k) p.acts.length (Ae 2 (Ip (.int .i64 (IntKind.wrap .i64 (Av p.acts (c.act.toNat+1+k)+(p.acts.getD (c.act.toNat+1+k) Ac.none).len))) (.int .i64 (Av p.acts (c.act.toNat+1+(k+1)))) ?_ (congrArg (Value.int .i64) ((IntWalk.i64_in _ (by have he3:=ho.ends ((c.act.toNat+1+k)+1) ω;rw[Av] at he3;omega)).trans rfl)))))
  refine Ae 10 (Gi 50 (Ao p c+w+r.flight<=Av p.acts (c.act.toNat+1+(k+1))) (λhx2 hx2d=>?_) (λhx2 hx2d=>?_))
  ·
   exact Ae 2 (Jb [(4,Hr (Gq p.acts) (c.act.toNat+1+k),.none),(9,Hr (Ads ((p.acts.getD (c.act.toNat+1+k) Ac.none).moves)) (c.craft).toNat,.none)] [8,9,10,11,12] ⟨Tg (c.act.toNat+1+k) p.acts.length,Af6 c.craft (c.craft).toNat ((p.acts.getD (c.act.toNat+1+k) Ac.none).moves.length),trivial⟩ (Ae 8 (Jb [] [8,9,10,11,12] trivial (Ae 3 (Hs (.lit (.tuple #[.int .i64 (Ao p c+w),.int .i64 (Ao p c+w+r.flight),.int .i64 ((c.act.toNat+1+k:Nat):Int),.int .i64 (Av p.acts (c.act.toNat+1+(k+1))),.agg #[.int .i64 (((p.acts.getD (c.act.toNat+1+k) Ac.none).moves.getD ((c.craft).toNat) Mv.none).to.x),.int .i64 (((p.acts.getD (c.act.toNat+1+k) Ac.none).moves.getD ((c.craft).toNat) Mv.none).to.y),.int .i64 (((p.acts.getD (c.act.toNat+1+k) Ac.none).moves.getD ((c.craft).toNat) Mv.none).to.z)]])) (AbR (i:=c.act.toNat+1+k) ω ω hFk (by first|omega|(show _<=Av p.acts (c.act.toNat+1+(k+1));omega))).symm)))))
  ·
   exact Ae 6 (Ep (((c.act.toNat+1+k:Nat):Int)+1) ((c.act.toNat+1+k+1:Nat):Int) (Ae 2 (Om [4,6,8,9,10,11,12,13] (hJ1 ω (λq h1 h2=>(Nat.lt_or_ge q (c.act.toNat+1+k)).elim (λg=>hFk q h1 g) λg=>by have e:q=c.act.toNat+1+k:=(ω);subst e;first|omega|(show Av p.acts (c.act.toNat+1+(k+1))<_;omega))))))
 ·
  exact Ae 7 (Jb [] [8,9,10,11,12] trivial (Ae 3 (Hs (.lit (.tuple #[.int .i64 (Ao p c+w),.int .i64 (Ao p c+w+r.flight),.int .i64 (-1),.int .i64 (Av p.acts (c.act.toNat+1+k)),.agg #[.int .i64 0,.int .i64 0,.int .i64 0]])) ((AdC ω (λq h1 h2=>hFk q h1 ω)).trans (congrArg (λq=>AV.lit (.tuple #[.int .i64 (Ao p c+w),.int .i64 (Ao p c+w+r.flight),.int .i64 (-1),.int .i64 (Av p.acts q),.agg #[.int .i64 0,.int .i64 0,.int .i64 0]])) (show p.acts.length=c.act.toNat+1+k by omega))).symm)))
abbrev Ub (r:Rv):AV:= .elt 4 λxi=>[Qn r.homes,.int r.flight,Fi r.waits,Fi r.rises].getD (0+xi) .top
abbrev Xg (v:V3):AV:= .elt 3 λxi=>[AV.int v.x,.int v.y,.int v.z].getD (0+xi) .top
abbrev iV (r:Rv) (v:V3):AV:= .elt 1 λxi=>[AV.fn 40 [Ub r,Xg v]].getD (0+xi) .top
def Kl (a b:Int):Int:=if a<b then -1 else if b<a then 1 else 0
def orI (a b:Int):Int:=if a=0 then b else a
theorem Aca {d:Int} (h: -2097152<=d/\d<=2097152):0<=d*d/\d*d<=4398046511104:=by
 rcases Int.le_total 0 d with g|g
 have h1:=Int.mul_nonneg g g
 have h2:=Int.mul_le_mul h.2 h.2 g δ
 omega
 have e:d*d= -d* -d:=(Int.neg_mul_neg d d).symm
 have h1:=Int.mul_nonneg (Int.neg_nonneg.2 g) (Int.neg_nonneg.2 g)
 have h2:=Int.mul_le_mul (show -d<=2097152 by omega) (show -d<=2097152 by omega) (Int.neg_nonneg.2 g) δ
 omega
theorem Zj (r:Rv) (v:V3) (a b:Nat):decide (orI (Kl (Te r v a) (Te r v b)) (Kl (a:Int) (b:Int))<0)=bI r v a b:=by
 unfold orI Kl bI
 generalize Te r v a=x
 generalize Te r v b=y
 by_cases h1:x<y
 simp[h1]
 by_cases h2:y<x
 simp[h1,h2]
 intro h;omega
 have e:x=y:=by omega
 by_cases h3:a<b
 simp[e,h3]
 by_cases h4:b<a
 simp[e,h3,h4]
 simp[e,h3,h4]
theorem lH (a:Int):AF Tryz.prog 78 [.int a] (.bool false):=by
 refine Cr func78 rfl λB D0 hA0=>?_
 exact Ae 14 (Hs (.bool (!decide (a=a))) (congrArg AV.bool (by simp)))
theorem Zw (a b:Int):AF Tryz.prog 44 [.int a,.int b] (.int (Kl a b)):=by
 refine Cr func44 rfl λB D0 hA0=>?_
 refine Ae 8 (Cf (lH a) (Ae 6 (Cf (lH b) (Ae 29 (Gi 16 (a<b) (λhx1 hx1d=>?_) (λhx1 hx1d=>?_))))))
 ·
  exact Ae 8 (Hs (.int (-1)) (congrArg AV.int (by unfold Kl;(repeat' split)<;>omega)))
 ·
  refine Ae 11 (Gi 19 (b<a) (λhx2 hx2d=>?_) (λhx2 hx2d=>?_))
  ·
   exact Ae 8 (Hs (.int 1) (congrArg AV.int (by unfold Kl;(repeat' split)<;>omega)))
  ·
   exact Ae 9 (Hs (.int 0) (congrArg AV.int (by unfold Kl;(repeat' split)<;>omega)))
theorem Afu (a b:Int):AF Tryz.prog 43 [.sl 1 2 λxi=>[AV.int a,.int b].getD xi .top] (.int (orI a b)):=by
 refine Cr func43 rfl λB D0 hA0=>?_
 refine Ae 19 (pO 2 (Ae 13 (Fl 0 2 (Ae 11 (Aeb 14 (a=0) (λhx1 hx1d=>?_) (λhx1 hx1d=>?_))))))
 ·
  refine Ae 5 (Ip (.int .i64 1) (.int .i64 1) (Ae 16 (Fl 1 2 (Ae 11 (Aeb 14 (b=0) (λhx2 hx2d=>?_) (λhx2 hx2d=>?_))))))
  ·
   exact Ae 5 (Ip (.int .i64 2) (.int .i64 2) (Ae 22 (Hs (.int 0) (congrArg AV.int (by unfold orI;split<;>omega)))))
  ·
   exact Ae 13 (Hs (.int b) (congrArg AV.int (by unfold orI;split<;>omega)))
 ·
  exact Ae 13 (Hs (.int a) (congrArg AV.int (by unfold orI;split<;>omega)))
theorem Aam (r:Rv) (v:V3) (i:Nat) (hr:Ng r) (hi:i<r.homes.length) (hv:En 1048576 [v.x,v.y,v.z]=true):AF Tryz.prog 40 [.int (i:Int),Ub r,Xg v] (.int (Te r v i)):=by
 have hb:=in3 (hr.2.1 i hi).1
 have hw:=in3 hv
 have hn:=hr.1
 refine Cr func40 rfl λB D0 hA0=>?_
 refine Ae 6 (Jb [(3,Hr (Qn r.homes) i,.none),(8,.int ((r.homes.getD i V3.zero).x-v.x),.none),(12,Hr (Qn r.homes) i,.none),(17,.int ((r.homes.getD i V3.zero).y-v.y),.none),(21,Hr (Qn r.homes) i,.none),(26,.int ((r.homes.getD i V3.zero).z-v.z),.none)] [5] ⟨Tg i r.homes.length,Au (Bx (v:= .int .i64 (IntKind.wrap .i64 ((r.homes.getD i V3.zero).x-v.x))) (v':= .int .i64 ((r.homes.getD i V3.zero).x-v.x)) _ κ rfl κ (λw=>by kernel_rfl) (congrArg (Value.int .i64) ((IntWalk.i64_in _ ω).trans ω))),Tg i r.homes.length,Au (Bx (v:= .int .i64 (IntKind.wrap .i64 ((r.homes.getD i V3.zero).y-v.y))) (v':= .int .i64 ((r.homes.getD i V3.zero).y-v.y)) _ κ rfl κ (λw=>by kernel_rfl) (congrArg (Value.int .i64) ((IntWalk.i64_in _ ω).trans ω))),Tg i r.homes.length,Au (Bx (v:= .int .i64 (IntKind.wrap .i64 ((r.homes.getD i V3.zero).z-v.z))) (v':= .int .i64 ((r.homes.getD i V3.zero).z-v.z)) _ κ rfl κ (λw=>by kernel_rfl) (congrArg (Value.int .i64) ((IntWalk.i64_in _ ω).trans ω))),trivial⟩ (Ae 1 ?_))
 have hqx:=Aca (d:=(r.homes.getD i V3.zero).x-v.x) ω
 have hqy:=Aca (d:=(r.homes.getD i V3.zero).y-v.y) ω
 have hqz:=Aca (d:=(r.homes.getD i V3.zero).z-v.z) ω
 exact Ae 6 (Ep (((r.homes.getD i V3.zero).x-v.x)*((r.homes.getD i V3.zero).x-v.x)) (((r.homes.getD i V3.zero).x-v.x)*((r.homes.getD i V3.zero).x-v.x)) (Ae 4 (Ep (((r.homes.getD i V3.zero).y-v.y)*((r.homes.getD i V3.zero).y-v.y)) (((r.homes.getD i V3.zero).y-v.y)*((r.homes.getD i V3.zero).y-v.y)) (Ep (((r.homes.getD i V3.zero).x-v.x)*((r.homes.getD i V3.zero).x-v.x)+((r.homes.getD i V3.zero).y-v.y)*((r.homes.getD i V3.zero).y-v.y)) (((r.homes.getD i V3.zero).x-v.x)*((r.homes.getD i V3.zero).x-v.x)+((r.homes.getD i V3.zero).y-v.y)*((r.homes.getD i V3.zero).y-v.y)) (Ae 4 (Ep (((r.homes.getD i V3.zero).z-v.z)*((r.homes.getD i V3.zero).z-v.z)) (((r.homes.getD i V3.zero).z-v.z)*((r.homes.getD i V3.zero).z-v.z)) (Ep (((r.homes.getD i V3.zero).x-v.x)*((r.homes.getD i V3.zero).x-v.x)+((r.homes.getD i V3.zero).y-v.y)*((r.homes.getD i V3.zero).y-v.y)+((r.homes.getD i V3.zero).z-v.z)*((r.homes.getD i V3.zero).z-v.z)) (((r.homes.getD i V3.zero).x-v.x)*((r.homes.getD i V3.zero).x-v.x)+((r.homes.getD i V3.zero).y-v.y)*((r.homes.getD i V3.zero).y-v.y)+((r.homes.getD i V3.zero).z-v.z)*((r.homes.getD i V3.zero).z-v.z)) (Ae 4 (Gd)))))))))
theorem tA (r:Rv) (v:V3) (a b:Nat) (hr:Ng r) (ha:a<r.homes.length) (hb:b<r.homes.length) (hv:En 1048576 [v.x,v.y,v.z]=true):AF Tryz.prog 42 [.int (a:Int),.int (b:Int),iV r v] (.int (orI (Kl (Te r v a) (Te r v b)) (Kl (a:Int) (b:Int)))):=by
 refine Cr func42 rfl λB D0 hA0=>?_
 exact Ae 6 (Jb [(2,_,.none),(5,_,.none),(6,_,.none),(9,_,.none),(10,.osl 0 1 2,(.new 0 (.vec 3 1 2 (λxi=>[.int (Kl (Te r v a) (Te r v b)),.int (Kl (a:Int) (b:Int))].getD xi .top)))),(11,.int (orI (Kl (Te r v a) (Te r v b)) (Kl (a:Int) (b:Int))),(.read 0))] [5] ⟨AcV (Aam r v a hr ha hv),AcV (Aam r v b hr hb hv),El (Zw (Te r v a) (Te r v b)),El (Zw (a:Int) (b:Int)),Au (Aj 23 2 #[(0,(.tmp 12)),(1,(.tmp 15))] κ underlying23 1 sizeOf3 _ zeroValue3 κ β β β 0 [.int (Kl (Te r v a) (Te r v b)),.int (Kl (a:Int) (b:Int))] κ (λxi=>[.int (Kl (Te r v a) (Te r v b)),.int (Kl (a:Int) (b:Int))].getD xi .top) κ),Au (fQ 43 #[.tmp 16] #[23] κ (λ_ _=>by kernel_rfl) 0 (.vec 3 1 2 (λxi=>[.int (Kl (Te r v a) (Te r v b)),.int (Kl (a:Int) (b:Int))].getD xi .top)) κ (λ_ _ _ _ h=>by cases h;exact(λi hi j hj=>by obtain rfl:j=0:=(ω);exact match i,hi with|0,_=>rfl|1,_=>rfl|i+2,h=>absurd h ω)) [.osl 0 1 2] κ [.sl 1 2 (λxi=>[.int (Kl (Te r v a) (Te r v b)),.int (Kl (a:Int) (b:Int))].getD xi .top)] κ (.int .i64 (orI (Kl (Te r v a) (Te r v b)) (Kl (a:Int) (b:Int)))) (Afu (Kl (Te r v a) (Te r v b)) (Kl (a:Int) (b:Int)))),trivial⟩ (Ae 2 (Gd)))
theorem Jv (v:V3) (z:Int) (hv:En 1048576 [v.x,v.y,v.z]=true) (hz:0<=z/\z<=1048576):AF Tryz.prog 45 [Eg v,.int z] (.bool (Km v z)):=by
 have hb:=in3 hv
 refine Cr func45 rfl λB D0 hA0=>?_
 exact Ae 11 (Ep (v.z+z) (v.z+z) (Ae 7 (Cf (aA ⟨v.x,v.y,v.z+z⟩) (Ae 4 (Gd)))))
theorem fI {lt:Nat->Nat->Bool} {l:List Nat} {j:Nat} (h0:0<j) (h:lt (l.getD j 0) (l.getD (j-1) 0)=true):Tf lt l j=Tf lt (Ob l (j-1)) (j-1):=by
 obtain⟨j',rfl⟩:∃j',j=j'+1:=⟨j-1,ω⟩
 rw[Tf]
 simp only[Nat.add_sub_cancel] at h ⊢
 rw[if_pos h]
theorem fJ {lt:Nat->Nat->Bool} {l:List Nat} {j:Nat} (h0:0<j) (h:lt (l.getD j 0) (l.getD (j-1) 0)=false):Tf lt l j=l:=by
 obtain⟨j',rfl⟩:∃j',j=j'+1:=⟨j-1,ω⟩
 rw[Tf]
 simp only[Nat.add_sub_cancel] at h ⊢
 rw[if_neg (by rw[h];exact Bool.false_ne_true)]
theorem fK {lt:Nat->Nat->Bool} {l:List Nat} {j:Nat} (h0:¬0<j):Tf lt l j=l:=by
 obtain rfl:j=0:=by omega
 rfl
theorem vN (L:List Nat) (j x:Nat) (h0:0<j) (h:j<L.length):(if x=j-1 then AV.int ((L.getD j 0:Nat):Int) else if x=j then AV.int ((L.getD (j-1) 0:Nat):Int) else AV.int ((L.getD x 0:Nat):Int))=AV.int (((Ob L (j-1)).getD x 0:Nat):Int):=by
 rw[Wo _ _ _ ω,show j-1+1=j by omega]
 by_cases e1:x=j-1
 rw[if_pos e1,if_pos e1]
 rw[if_neg e1,if_neg e1]
 by_cases e2:x=j
 rw[if_pos e2,if_pos e2]
 rw[if_neg e2,if_neg e2]
theorem gI {L:List Nat} {j n:Nat} (h:j+1<L.length) (hm:∀x,x<L.length->L.getD x 0<n):∀x,x<L.length->(Ob L j).getD x 0<n:=λx hx=>by
 rw[Wo _ _ _ h]
 split
 exact hm _ h
 split
 exact hm _ ω
 exact hm x hx
theorem vD {p:Pr} {r:Rv} {c:Cs} {k:Nat} (hc:Hy p c) (h:dX p r c k=true):En 1048576 [(Bn p r c k).x,(Bn p r c k).y,(Bn p r c k).z]=true:=by
 have:=(Du hc.1).to (j:=Nj p c (Lf p r c (r.waits.getD k 0))) (i:=c.craft.toNat) (of_decide_eq_true h) (by have:=hc.2.1;have:=hc.2.2.1;omega)
 exact this
theorem Tj {p:Pr} {r:Rv} {c:Cs} {k:Nat} (hp:Kp p) (hc:Hy p c) (hcs:Oo c) (hr:Ng r) (hk:k<r.waits.length) (h:dX p r c k=true):AF Tryz.prog 39 [Ff p,Ie r,Ja c,.int (r.waits.getD k 0)] (.lit (.tuple #[.int .i64 (Ao p c+r.waits.getD k 0),.int .i64 (Ao p c+r.waits.getD k 0+r.flight),.int .i64 (Nj p c (Lf p r c (r.waits.getD k 0)):Int),.int .i64 (Av p.acts (Nj p c (Lf p r c (r.waits.getD k 0))+1)),pH (Bn p r c k)])):=by
 have hw:=hr.2.2.1.2.2 k hk
 have:=On p r c (r.waits.getD k 0) hp hc hcs hr ⟨hw.1,hw.2.1⟩
 unfold dZ at this
 rwa [if_pos (of_decide_eq_true h)] at this
theorem Ux {p:Pr} {r:Rv} {c:Cs} {k:Nat} (hp:Kp p) (hc:Hy p c) (hcs:Oo c) (hr:Ng r) (hk:k<r.waits.length) (h:dX p r c k=false):AF Tryz.prog 39 [Ff p,Ie r,Ja c,.int (r.waits.getD k 0)] (.lit (.tuple #[.int .i64 (Ao p c+r.waits.getD k 0),.int .i64 (Ao p c+r.waits.getD k 0+r.flight),.int .i64 (-1),.int .i64 (Av p.acts p.acts.length),.agg #[.int .i64 0,.int .i64 0,.int .i64 0]])):=by
 have hw:=hr.2.2.1.2.2 k hk
 have:=On p r c (r.waits.getD k 0) hp hc hcs hr ⟨hw.1,hw.2.1⟩
 unfold dZ at this
 rwa [if_neg (of_decide_eq_false h)] at this
theorem Sx {l r:List Rl} (i:Nat):(l++r).getD i Rl.none=if i<l.length then l.getD i Rl.none else r.getD (i-l.length) Rl.none:=by
 simp only[List.getD_eq_getElem?_getD,List.getElem?_append]
 split<;>rfl
def vF (l:List Rl):AV:=if l.length=0 then .lit (.tuple #[.slice none 0 0,.int .i64 0]) else .tup [Ts l,.int 0]
def Lz (p:Pr) (r:Rv) (c:Cs):Prop:=Hy p c/\Ng r
theorem Aat (n:Nat) (h:n<=1000000):AF Tryz.prog 77 [.lit (.int .u64 (n:Int))] (.int (Lib.bitLen n:Int)):=Jc (vs:=[_]) λw=>by
 have:=Tryz.bits_Len (n:Int) w ω ω
 refine this.mono ?_
 rintro e w' ⟨rfl,rfl⟩
 exact⟨by simp,Below.refl _ _⟩
theorem Za (p:Pr) (r:Rv) (c:Cs) (hp:Kp p) (hr:Tz r) (hcs:Oo c):AF Tryz.prog 37 [Ff p,Ie r,Ja c] (.bool (bP (Lz p r c))):=by
 refine Cr func37 rfl λB D0 hA0=>?_
 refine Ae 12 (Cf (Uy p c hp hcs) (Ae 1 (zX 10 (bP (Hy p c)) (λhx1=>?_) (λhx1=>?_))))
 ·
  exact Ae 1 (Cf (Ti r hr) (Ae 5 (Hs (.bool (bP (Ng r))) (congrArg AV.bool (Aef ⟨λg=>⟨Ib hx1,g⟩,λg=>g.2⟩)))))
 ·
  exact Ae 7 (Hs (.bool false) (congrArg AV.bool (Bq λg=>Qy hx1 g.1).symm))
theorem Oe (p:Pr) (r:Rv) (c:Cs) (hp:Kp p) (hr:Tz r) (hcs:Oo c) (h:¬Lz p r c):AF Tryz.prog 18 [Ff p,Ie r,Ja c] (.lit (.tuple #[.slice none 0 0,.int .i64 2])):=by
 refine Cr func18 rfl λB D0 hA0=>?_
 exact Ae 15 (Cf (Za p r c hp hr hcs) (Ae 3 (Gv 27 (!bP (Lz p r c)) true (by rw[(Bq h)];rfl) (Ae 9 (Gd)))))
theorem gG (r:Rv) (v:V3) {i:Nat} (h:i<r.homes.length):∀x,x<r.homes.length->(Lu (bI r v) (List.range r.homes.length) i).getD x 0<r.homes.length:=λx hx=>by
 have:=cS (bI r v) (n:=r.homes.length) (List.range r.homes.length) (λx hx=>by
  rw[List.length_range] at hx
  rw[Ry hx];exact hx) i (by rw[List.length_range];exact h) x (by rw[List.length_range];exact hx)
 exact this
theorem lK (p:Pr) (r:Rv) (c:Cs) (hp:Kp p) (hr:Tz r) (hcs:Oo c) (hg:Lz p r c):AF Tryz.prog 18 [Ff p,Ie r,Ja c] (vF (Cj p r c)):=by
 have hi1:=hr.n
 have hn1:=hg.2.1.1
 have hn2:=hg.2.1.2.1
 have hw1:=hg.2.2.2.1.1
 have hw2:=hg.2.2.2.1.2.1
 have hs1:=hg.2.2.2.2.1
 have hs2:=hg.2.2.2.2.2.1
 refine Cr func18 rfl λB D0 hA0=>?_
 refine Ae 15 (Cf (Za p r c hp hr hcs) (Ae 3 (Gv 27 (!bP (Lz p r c)) false (by rw[(Dz hg)];rfl) (Ae 3 (Yv 0 (Yv 1 (Yv 2 (Ae 15 (dN [3,4,5,8,29,30,31] (λm s=>∃k n,k<=r.waits.length/\m=r.waits.length-k/\(n=(Jr p r c k).length/\n<=k*128)/\(((n=0)/\s=⟨[(3,.elt 3 (λxi=>[Fd p.names,Hn p.homes,Gq p.acts].getD (0+xi) .top)),(4,Ub r),(5,.elt 2 (λxi=>[.int c.craft,.int c.act].getD (0+xi) .top)),(8,.lit (.slice none 0 0)),(29,Fi r.waits),(30,.int (r.waits.length:Int)),(31,.int (k:Int))],[],3,99⟩)\/((0<n)/\s=⟨[(3,.elt 3 (λxi=>[Fd p.names,Hn p.homes,Gq p.acts].getD (0+xi) .top)),(4,Ub r),(5,.elt 2 (λxi=>[.int c.craft,.int c.act].getD (0+xi) .top)),(8,.osl 50 3 n),(29,Fi r.waits),(30,.int (r.waits.length:Int)),(31,.int (k:Int))],[(50,.vec 52 3 n (λxi=>Cx ((Jr p r c k).getD xi Rl.none)))],51,99⟩))) r.waits.length ⟨0,0,Nat.zero_le _,rfl,⟨rfl,Nat.zero_le _⟩,(.inl ⟨rfl,κ⟩)⟩ ?_)))))))))
 rintro _ _ ⟨k,n,hkn,rfl,hFk,(⟨hk0,rfl⟩|⟨hk0,rfl⟩)⟩ J1 hJ1
 ·
  refine Ae 6 (Gi 32 ((k:Int)<(r.waits.length:Int)) (λhx1 hx1d=>?_) (λhx1 hx1d=>?_))
  ·
   refine Ae 7 (Fl k r.waits.length (Ae 10 ?_))
   refine Fm (dX p r c k) (λhx2=>?_) (λhx2=>?_)
   ·
    refine Cf (Tj hp hg.1 hcs hg.2 ω hx2) (Ae 19 (Gv 47 (decide ((((Nj p c (Lf p r c (r.waits.getD k 0))):Nat):Int)<0)) false (decide_eq_false ω) (Ae 5 ?_)))
    have hV:=vD hg.1 hx2
    refine Yv 3 (Ae 7 (Yv 4 (Ae 15 (dN [3,4,5,8,10,15,16,17,29,30,31,51,52] (λm s=>∃a,a<=r.homes.length/\m=r.homes.length-a/\True/\((a=0/\s=⟨[(3,.elt 3 (λxi=>[Fd p.names,Hn p.homes,Gq p.acts].getD (0+xi) .top)),(4,Ub r),(5,.elt 2 (λxi=>[.int c.craft,.int c.act].getD (0+xi) .top)),(8,.lit (.slice none 0 0)),(10,.int ((r.waits).getD k 0)),(15,Xg (Bn p r c k)),(16,iV r (Bn p r c k)),(17,.lit (.slice none 0 0)),(29,Fi r.waits),(30,.int (r.waits.length:Int)),(31,.int (k:Int)),(51,.int (r.homes.length:Int)),(52,.int ((0:Nat):Int))],[],5,99⟩)\/(0<a/\s=⟨[(3,.elt 3 (λxi=>[Fd p.names,Hn p.homes,Gq p.acts].getD (0+xi) .top)),(4,Ub r),(5,.elt 2 (λxi=>[.int c.craft,.int c.act].getD (0+xi) .top)),(8,.lit (.slice none 0 0)),(10,.int ((r.waits).getD k 0)),(15,Xg (Bn p r c k)),(16,iV r (Bn p r c k)),(17,.osl 60 1 a),(29,Fi r.waits),(30,.int (r.waits.length:Int)),(31,.int (k:Int)),(51,.int (r.homes.length:Int)),(52,.int (a:Int))],[(60,.vec 3 1 a (λxi=>AV.int (xi:Int)))],61,99⟩))) r.homes.length ⟨0,Nat.zero_le _,rfl,trivial,.inl ⟨rfl,κ⟩⟩ ?_))))
    rintro _ _ ⟨a,han,rfl,hFa,(⟨ha0,rfl⟩|⟨ha0,rfl⟩)⟩ J2 hJ2
    ·
     subst ha0
     refine Ae 6 (Gi 53 (((0:Nat):Int)<(r.homes.length:Int)) (λhx3 hx3d=>?_) (λhx3 hx3d=>?_))
     ·
      exact Ae 14 (Bk (.osl 5 1 1) (.new 5 (.vec 3 1 1 (λ_=> .int ((0:Nat):Int)))) (Aj 23 1 #[(0,(.tmp 56))] κ underlying23 1 sizeOf3 _ zeroValue3 κ β β β 5 [.int ((0:Nat):Int)] κ (λ_=> .int ((0:Nat):Int)) κ) (Bk (.osl 6 1 1) (.newr 5 6 (.vec 3 1 1 (λxi=>AV.int (xi:Int)))) (Ci (.tmp 55) (.tmp 57) 23 κ underlying23 1 8 (.int .i64 0) κ κ δ 1 ω (λ_=> .int ((0:Nat):Int)) (λxi=>AV.int (xi:Int)) 6 (λi hi=>by(obtain rfl:i=0:=(ω));rfl) (λi hi j hj=>by obtain rfl:j=0:=(ω);rfl) (by unfold maxLen;omega) ω κ 5 3 κ κ) (Ae 5 (Ep (((0:Nat):Int)+1) ((0+1:Nat):Int) (Ae 2 (Ha [3,4,5,8,10,15,16,17,29,30,31,51,52] [(6,60)] 61 0 hA0 [(3,1,1,(λ_=> .int ((0:Nat):Int))),(3,1,1,(λxi=>AV.int (xi:Int)))] ⟨(Gl λ_ _=>rfl),(Gl λ_ _=>rfl),trivial⟩ (hJ2 _ _ (by omega:r.homes.length-(0+1)<r.homes.length-0) ⟨0+1,ω,rfl,trivial,.inr ⟨Nat.succ_pos _,rfl⟩⟩)))))))
     ·
      refine Ae 6 ?_
      exfalso;omega
    ·
     refine Ae 6 (Gi 53 ((a:Int)<(r.homes.length:Int)) (λhx4 hx4d=>?_) (λhx4 hx4d=>?_))
     ·
      exact Ae 14 (Bk (.osl 61 1 1) (.new 61 (.vec 3 1 1 (λ_=> .int (a:Int)))) (Aj 23 1 #[(0,(.tmp 56))] κ underlying23 1 sizeOf3 _ zeroValue3 κ β β β 61 [.int (a:Int)] κ (λ_=> .int (a:Int)) κ) (Bk (.osl 62 1 (a+1)) (.grow2 60 61 62 (.vec 3 1 (a+1) (λxi=>AV.int (xi:Int)))) (Ce (.tmp 55) (.tmp 57) 23 κ underlying23 1 8 (.int .i64 0) κ κ δ a 1 ω (λxi=>AV.int (xi:Int)) (λ_=> .int (a:Int)) (λxi=>AV.int (xi:Int)) 62 ω (by unfold maxLen;omega) (λi hi=>rfl) (λi hi=>by(obtain rfl:i=0:=(ω));rfl) (λi hi j hj=>by obtain rfl:j=0:=(ω);rfl) 60 κ κ 61 3 κ κ) (Ae 5 (Ep ((a:Int)+1) ((a+1:Nat):Int) (Ae 2 (Ha [3,4,5,8,10,15,16,17,29,30,31,51,52] [(62,60)] 61 0 hA0 [(3,1,1,(λ_=> .int (a:Int))),(3,1,a+1,(λxi=>AV.int (xi:Int)))] ⟨(Gl λ_ _=>rfl),(Gl λ_ _=>rfl),trivial⟩ (hJ2 _ _ (by omega:r.homes.length-(a+1)<r.homes.length-a) ⟨a+1,ω,rfl,trivial,.inr ⟨Nat.succ_pos _,rfl⟩⟩)))))))
     ·
      refine Ae 6 ?_
      have hae:a=r.homes.length:=by omega
      subst hae
      refine Ae 4 (Yx 61 func41 (λ_ hD5=>?_))
      refine Ae 11 (Ip (.int .u64 (IntKind.wrap .u64 (r.homes.length:Int))) (.int .u64 (r.homes.length:Int)) ?_ (congrArg (Value.int .u64) (IntWalk.u64_in _ ω)))
      refine Cf (Aat _ ω) (Ae 1 (Yx 61 func76 (λ_ hD6=>?_)))
      refine Ae 11 (pO 1 (Ae 5 (Ep ((r.homes.length:Int)-0) ((r.homes.length-0:Nat):Int) (Ae 8 (Gv 25 (decide (((r.homes.length-0:Nat):Int)<=12)) true (decide_eq_true ω) (Ae 9 (Yx 61 func104 (λ_ hD7=>?_))))))))
      refine Ae 3 (Ip (.int .i64 1) (.int .i64 1) (Ae 4 (Ww 60 3 1 r.homes.length (λxi=>AV.int (xi:Int)) (λxi=>AV.int (((Lu (bI r (Bn p r c k)) (List.range r.homes.length) 0).getD xi 0:Nat):Int)) (λx9 hx9=>by show AV.int _=AV.int _;rw[Lu,Ry hx9]) (Pe [0,1,2,3,8] (r.homes.length-1) (λi=>True) (λi=>⟨[(0,.osl 60 1 r.homes.length),(1,.int 0),(2,.int (r.homes.length:Int)),(3,.fn 42 [iV r (Bn p r c k)]),(8,.int ((i+1:Nat):Int))],[(60,.vec 3 1 r.homes.length (λxi=>AV.int (((Lu (bI r (Bn p r c k)) (List.range r.homes.length) i).getD xi 0:Nat):Int)))],61,53⟩) trivial (λi hin hFi J3 hJ3=>?_)))))
      refine Ae 8 (Gi 14 (((i+1:Nat):Int)<(r.homes.length:Int)) (λhx8 hx8d=>?_) (λhx8 hx8d=>?_))
      ·
       refine Ae 12 (dN [0,1,2,3,8,9] (λm s=>∃j L,m=j+1/\(Tf (bI r (Bn p r c k)) L j=Lu (bI r (Bn p r c k)) (List.range r.homes.length) (i+1)/\j<=i+1/\L.length=r.homes.length/\(∀x,x<r.homes.length->L.getD x 0<r.homes.length))/\s=⟨[(0,.osl 60 1 r.homes.length),(1,.int 0),(2,.int (r.homes.length:Int)),(3,.fn 42 [iV r (Bn p r c k)]),(8,.int ((i+1:Nat):Int)),(9,.int (j:Int))],[(60,.vec 3 1 r.homes.length (λxi=>AV.int (((L).getD xi 0:Nat):Int)))],61,53⟩) ((i+1)+1) ⟨i+1,(Lu (bI r (Bn p r c k)) (List.range r.homes.length) i),rfl,⟨rfl,Nat.le_refl _,by rw[Na,List.length_range],gG r (Bn p r c k) ω⟩,κ⟩ ?_)
       rintro _ _ ⟨j,L,rfl,hF,rfl⟩ J4 hJ4
       obtain⟨hF1,hF2,hF3,hF4⟩:=hF
       refine Ae 2 (vsp ((0:Int)<(j:Int)) (λhx9 hx9d=>?_) (λhx9 hx9d=>?_))
       ·
        refine Jb [(2,.bool true,.none),(7,Hr (.osl 60 1 r.homes.length) j,.none),(8,.int (((L).getD j 0:Nat):Int),(.read 60)),(11,.int ((j-1:Nat):Int),.none),(12,Hr (.osl 60 1 r.homes.length) (j-1),.none),(13,.int (((L).getD (j-1) 0:Nat):Int),(.read 60)),(14,_,.none)] [0,1,2,3,8,9,34] ⟨kbD hx9,Tg j r.homes.length,Au (Bg 3 (.tmp 25) κ isAgg3 60 j 0 1 κ 3 r.homes.length (λxi=>AV.int (((L).getD xi 0:Nat):Int)) κ ω δ),Au (Bx (v:= .int .i64 (IntKind.wrap .i64 ((j:Int)-1))) (v':= .int .i64 ((j-1:Nat):Int)) _ κ rfl κ (λw=>by kernel_rfl) (congrArg (Value.int .i64) ((IntWalk.i64_in _ ω).trans ω))),Tg (j-1) r.homes.length,Au (Bg 3 (.tmp 30) κ isAgg3 60 (j-1) 0 1 κ 3 r.homes.length (λxi=>AV.int (((L).getD xi 0:Nat):Int)) κ ω δ),AcV (tA r (Bn p r c k) (L.getD j 0) (L.getD (j-1) 0) hg.2 (hF4 j ω) (hF4 (j-1) ω) hV),trivial⟩ (Ae 1 (Gi 34 (orI (Kl (Te r (Bn p r c k) (L.getD j 0)) (Te r (Bn p r c k) (L.getD (j-1) 0))) (Kl ((L.getD j 0:Nat):Int) ((L.getD (j-1) 0:Nat):Int))<0) (λhx10 hx10d=>?_) (λhx10 hx10d=>?_)))
        ·
         exact Ae 5 (Jb [(4,.int ((j-1:Nat):Int),.none),(7,.int ((j-1:Nat):Int),.none),(8,Hr (.osl 60 1 r.homes.length) (j-1),.none),(9,.int (((L).getD (j-1) 0:Nat):Int),(.read 60)),(12,Hr (.osl 60 1 r.homes.length) j,.none),(13,.int (((L).getD j 0:Nat):Int),(.read 60)),(14,Hr (.osl 60 1 r.homes.length) j,.none),(15,.lit Go.undef,(.set 60 (.vec 3 1 r.homes.length (λxi=>if xi=j then .int (((L).getD (j-1) 0:Nat):Int) else (λxi=>AV.int (((L).getD xi 0:Nat):Int)) xi)))),(16,Hr (.osl 60 1 r.homes.length) (j-1),.none),(17,.lit Go.undef,(.set 60 (.vec 3 1 r.homes.length (λxi=>if xi=j-1 then .int (((L).getD j 0:Nat):Int) else (λxi=>if xi=j then .int (((L).getD (j-1) 0:Nat):Int) else (λxi=>AV.int (((L).getD xi 0:Nat):Int)) xi) xi))))] [0,1,2,3,8,9] ⟨Au (Bx (v:= .int .i64 (IntKind.wrap .i64 ((j:Int)-1))) (v':= .int .i64 ((j-1:Nat):Int)) _ κ rfl κ (λw=>by kernel_rfl) (congrArg (Value.int .i64) ((IntWalk.i64_in _ ω).trans ω))),Au (Bx (v:= .int .i64 (IntKind.wrap .i64 ((j:Int)-1))) (v':= .int .i64 ((j-1:Nat):Int)) _ κ rfl κ (λw=>by kernel_rfl) (congrArg (Value.int .i64) ((IntWalk.i64_in _ ω).trans ω))),Tg (j-1) r.homes.length,Au (Bg 3 (.tmp 45) κ isAgg3 60 (j-1) 0 1 κ 3 r.homes.length (λxi=>AV.int (((L).getD xi 0:Nat):Int)) κ ω δ),Tg j r.homes.length,Au (Bg 3 (.tmp 49) κ isAgg3 60 j 0 1 κ 3 r.homes.length (λxi=>AV.int (((L).getD xi 0:Nat):Int)) κ ω δ),Tg j r.homes.length,Au (Ga 3 (.tmp 51) (.tmp 46) κ 1 sizeOf3 60 j κ 3 r.homes.length (λxi=>AV.int (((L).getD xi 0:Nat):Int)) κ ω κ κ κ (.int (((L).getD (j-1) 0:Nat):Int)) κ),Tg (j-1) r.homes.length,Au (Ga 3 (.tmp 52) (.tmp 50) κ 1 sizeOf3 60 (j-1) κ 3 r.homes.length (λxi=>if xi=j then .int (((L).getD (j-1) 0:Nat):Int) else (λxi=>AV.int (((L).getD xi 0:Nat):Int)) xi) κ ω κ κ κ (.int (((L).getD j 0:Nat):Int)) κ),trivial⟩ (Ae 2 (Ww 60 3 1 r.homes.length (λxi=>if xi=j-1 then .int (((L).getD j 0:Nat):Int) else (λxi=>if xi=j then .int (((L).getD (j-1) 0:Nat):Int) else (λxi=>AV.int (((L).getD xi 0:Nat):Int)) xi) xi) (λxi=>AV.int (((Ob L (j-1)).getD xi 0:Nat):Int)) (λx9 hx9=>vN L j x9 ω ω) (Ae 2 (Ep ((j:Int)-1) ((j-1:Nat):Int) (Ae 2 (Om [0,1,2,3,8,9] (hJ4 _ _ (by omega:(j-1)+1<j+1) ⟨j-1,Ob L (j-1),rfl,⟨(fI ω ((Zj r (Bn p r c k) (L.getD j 0) (L.getD (j-1) 0)).symm.trans hx10)).symm.trans hF1,ω,by rw[Kh];exact hF3,by rw[<-hF3];exact gI ω (by rw[hF3];exact hF4)⟩,rfl⟩))))))))
        ·
         refine Ae 7 ?_
         have hL:L=Lu (bI r (Bn p r c k)) (List.range r.homes.length) (i+1):=(fJ ω ((Zj r (Bn p r c k) (L.getD j 0) (L.getD (j-1) 0)).symm.trans hx10)).symm.trans hF1
         subst hL
         exact Ae 2 (Ep (((i+1:Nat):Int)+1) ((i+1+1:Nat):Int) (Ae 2 (Om [0,1,2,3,8] (hJ3 ω trivial))))
       ·
        refine Jb [(2,.bool false,.none)] [0,1,2,3,8,9,34] ⟨kbD hx9,trivial⟩ (Ae 8 ?_)
        have hL:L=Lu (bI r (Bn p r c k)) (List.range r.homes.length) (i+1):=(fK ω).symm.trans hF1
        subst hL
        exact Ae 2 (Ep (((i+1:Nat):Int)+1) ((i+1+1:Nat):Int) (Ae 2 (Om [0,1,2,3,8] (hJ3 ω trivial))))
      ·
       refine Ae 5 (sS (Ae 7 (sS (Ae 1 (sS (Ae 2 ?_))))))
       have hie:i=r.homes.length-1:=by omega
       subst hie
       refine Ww 60 3 1 r.homes.length (λxi=>AV.int (((Lu (bI r (Bn p r c k)) (List.range r.homes.length) (r.homes.length-1)).getD xi 0:Nat):Int)) (λxi=>AV.int (((Ec r (Bn p r c k)).getD xi 0:Nat):Int)) (λx9 hx9=>rfl) (Yw 60 [17] 3 1 r.homes.length (λxi=>AV.int (((Ec r (Bn p r c k)).getD xi 0:Nat):Int)) (Gl λ_ _=>rfl) (Ae 8 (dN [3,4,5,8,10,15,29,30,31,63,64,65] (λm s=>∃y n2,y<=r.homes.length/\m=r.homes.length-y/\(n2=(Oz p r c k y).length/\n2<=k*128+y*16)/\(((n2=0)/\s=⟨[(3,.elt 3 (λxi=>[Fd p.names,Hn p.homes,Gq p.acts].getD (0+xi) .top)),(4,Ub r),(5,.elt 2 (λxi=>[.int c.craft,.int c.act].getD (0+xi) .top)),(8,.lit (.slice none 0 0)),(10,.int ((r.waits).getD k 0)),(15,Xg (Bn p r c k)),(29,Fi r.waits),(30,.int (r.waits.length:Int)),(31,.int (k:Int)),(63,.sl 1 r.homes.length (λxi=>AV.int (((Ec r (Bn p r c k)).getD xi 0:Nat):Int))),(64,.int (r.homes.length:Int)),(65,.int (y:Int))],[],61,99⟩)\/((0<n2)/\s=⟨[(3,.elt 3 (λxi=>[Fd p.names,Hn p.homes,Gq p.acts].getD (0+xi) .top)),(4,Ub r),(5,.elt 2 (λxi=>[.int c.craft,.int c.act].getD (0+xi) .top)),(8,.osl 50 3 n2),(10,.int ((r.waits).getD k 0)),(15,Xg (Bn p r c k)),(29,Fi r.waits),(30,.int (r.waits.length:Int)),(31,.int (k:Int)),(63,.sl 1 r.homes.length (λxi=>AV.int (((Ec r (Bn p r c k)).getD xi 0:Nat):Int))),(64,.int (r.homes.length:Int)),(65,.int (y:Int))],[(50,.vec 52 3 n2 (λxi=>Cx ((Oz p r c k y).getD xi Rl.none)))],61,99⟩))) r.homes.length ⟨0,n,Nat.zero_le _,rfl,⟨by rw[rW];omega,ω⟩,(.inl ⟨hk0,κ⟩)⟩ ?_)))
       rintro _ _ ⟨y,n2,hyn,rfl,hFy,(⟨hy0,rfl⟩|⟨hy0,rfl⟩)⟩ J5 hJ5
       ·
        refine Ae 6 (Gi 66 ((y:Int)<(r.homes.length:Int)) (λhx11 hx11d=>?_) (λhx11 hx11d=>?_))
        ·
         refine Ae 7 (Fl y r.homes.length (Ae 4 ?_))
         have hom:=Wc r (Bn p r c k) (x:=y) ω
         refine Ae 9 (dN [3,4,5,8,10,15,20,29,30,31,63,64,65,70,71,72] (λm s=>∃u n3,u<=r.rises.length/\m=r.rises.length-u/\(n3=(Fg p r c k y u).length/\n3<=k*128+y*16+u)/\(((n3=0)/\s=⟨[(3,.elt 3 (λxi=>[Fd p.names,Hn p.homes,Gq p.acts].getD (0+xi) .top)),(4,Ub r),(5,.elt 2 (λxi=>[.int c.craft,.int c.act].getD (0+xi) .top)),(8,.lit (.slice none 0 0)),(10,.int ((r.waits).getD k 0)),(15,Xg (Bn p r c k)),(20,.int (((Ec r (Bn p r c k)).getD y 0:Nat):Int)),(29,Fi r.waits),(30,.int (r.waits.length:Int)),(31,.int (k:Int)),(63,.sl 1 r.homes.length (λxi=>AV.int (((Ec r (Bn p r c k)).getD xi 0:Nat):Int))),(64,.int (r.homes.length:Int)),(65,.int (y:Int)),(70,Fi r.rises),(71,.int (r.rises.length:Int)),(72,.int (u:Int))],[],61,99⟩)\/((0<n3)/\s=⟨[(3,.elt 3 (λxi=>[Fd p.names,Hn p.homes,Gq p.acts].getD (0+xi) .top)),(4,Ub r),(5,.elt 2 (λxi=>[.int c.craft,.int c.act].getD (0+xi) .top)),(8,.osl 50 3 n3),(10,.int ((r.waits).getD k 0)),(15,Xg (Bn p r c k)),(20,.int (((Ec r (Bn p r c k)).getD y 0:Nat):Int)),(29,Fi r.waits),(30,.int (r.waits.length:Int)),(31,.int (k:Int)),(63,.sl 1 r.homes.length (λxi=>AV.int (((Ec r (Bn p r c k)).getD xi 0:Nat):Int))),(64,.int (r.homes.length:Int)),(65,.int (y:Int)),(70,Fi r.rises),(71,.int (r.rises.length:Int)),(72,.int (u:Int))],[(50,.vec 52 3 n3 (λxi=>Cx ((Fg p r c k y u).getD xi Rl.none)))],61,99⟩))) r.rises.length ⟨0,n2,Nat.zero_le _,rfl,⟨by rw[cK];omega,ω⟩,(.inl ⟨hy0,κ⟩)⟩ ?_)
         rintro _ _ ⟨u,n3,hun,rfl,hFu,(⟨hu0,rfl⟩|⟨hu0,rfl⟩)⟩ J6 hJ6
         ·
          refine Ae 6 (Gi 73 ((u:Int)<(r.rises.length:Int)) (λhx12 hx12d=>?_) (λhx12 hx12d=>?_))
          ·
           refine Ae 5 ?_
           have hris:=hg.2.2.2.2.2.2 u ω
           refine Ae 2 (Fl u r.rises.length (Ae 9 (Fl ((Ec r (Bn p r c k)).getD y 0) r.homes.length (Ae 2 (Cf (Jv (r.homes.getD ((Ec r (Bn p r c k)).getD y 0) V3.zero) (r.rises.getD u 0) (hg.2.2.1 _ hom).1 ⟨hris.1,hris.2.1⟩) (Ae 1 (zX 83 (Km (r.homes.getD ((Ec r (Bn p r c k)).getD y 0) V3.zero) (r.rises.getD u 0)) (λhx13=>?_) (λhx13=>?_))))))))
           ·
            refine Ae 2 (Cf (Jv (Bn p r c k) (r.rises.getD u 0) hV ⟨hris.1,hris.2.1⟩) (Ae 3 (zX 87 (Km (Bn p r c k) (r.rises.getD u 0)) (λhx14=>?_) (λhx14=>?_))))
            ·
             exact Ae 7 (Bk (.osl 61 3 1) (.new 61 (.vec 52 3 1 (λ_=> .lit (.agg #[.int .i64 (((Ec r (Bn p r c k)).getD y 0:Nat):Int),.int .i64 ((r.waits).getD k 0),.int .i64 ((r.rises).getD u 0)])))) (Aj 45 1 #[(0,(.tmp 92))] κ underlying45 3 sizeOf52 _ zeroValue52 κ β β β 61 [.int (((Ec r (Bn p r c k)).getD y 0:Nat):Int),.int ((r.waits).getD k 0),.int ((r.rises).getD u 0)] κ (λ_=> .lit (.agg #[.int .i64 (((Ec r (Bn p r c k)).getD y 0:Nat):Int),.int .i64 ((r.waits).getD k 0),.int .i64 ((r.rises).getD u 0)])) κ) (Bk (.osl 62 3 1) (.newr 61 62 (.vec 52 3 1 (λxi=>Cx ((Fg p r c k y (u+1)).getD xi Rl.none)))) (Ci (.tmp 88) (.tmp 93) 45 κ underlying45 3 24 (.agg #[.int .i64 0,.int .i64 0,.int .i64 0]) κ κ δ 1 ω (λ_=> .lit (.agg #[.int .i64 (((Ec r (Bn p r c k)).getD y 0:Nat):Int),.int .i64 ((r.waits).getD k 0),.int .i64 ((r.rises).getD u 0)])) (λxi=>Cx ((Fg p r c k y (u+1)).getD xi Rl.none)) 62 (λi hi=>by(obtain rfl:i=0:=(ω));show Cx _=Cx ⟨(((Ec r (Bn p r c k)).getD y 0:Nat):Int),r.waits.getD k 0,r.rises.getD u 0⟩;rw[Io hx13 hx14,List.eq_nil_of_length_eq_zero (by omega:(Fg p r c k y u).length=0)];rfl) (λi hi j hj=>match j,hj with|0,_=>rfl|1,_=>rfl|2,_=>rfl|_+3,h=>absurd h ω) (by unfold maxLen;omega) ω κ 61 52 κ κ) (Ae 5 (Ep ((u:Int)+1) ((u+1:Nat):Int) (Ae 2 (Ha [3,4,5,8,10,15,20,29,30,31,63,64,65,70,71,72] [(62,50)] 61 0 hA0 [(52,3,1,(λ_=> .lit (.agg #[.int .i64 (((Ec r (Bn p r c k)).getD y 0:Nat):Int),.int .i64 ((r.waits).getD k 0),.int .i64 ((r.rises).getD u 0)]))),(52,3,1,(λxi=>Cx ((Fg p r c k y (u+1)).getD xi Rl.none)))] ⟨(Gl λ_ _=>rfl),(Gl λ_ _=>rfl),trivial⟩ (hJ6 _ _ (by omega:r.rises.length-(u+1)<r.rises.length-u) ⟨u+1,1,ω,rfl,⟨by rw[Io hx13 hx14,List.length_append,List.length_singleton];omega,ω⟩,(.inr ⟨ω,rfl⟩)⟩)))))))
            ·
             exact Ae 5 (Ep ((u:Int)+1) ((u+1:Nat):Int) (Ae 2 (Om [3,4,5,8,10,15,20,29,30,31,63,64,65,70,71,72] (hJ6 _ _ (by omega:r.rises.length-(u+1)<r.rises.length-u) ⟨u+1,0,ω,rfl,⟨by rw[Fk (.inr hx14)];omega,ω⟩,(.inl ⟨ω,rfl⟩)⟩))))
           ·
            exact Ae 11 (Ep ((u:Int)+1) ((u+1:Nat):Int) (Ae 2 (Om [3,4,5,8,10,15,20,29,30,31,63,64,65,70,71,72] (hJ6 _ _ (by omega:r.rises.length-(u+1)<r.rises.length-u) ⟨u+1,0,ω,rfl,⟨by rw[Fk (.inl hx13)];omega,ω⟩,(.inl ⟨ω,rfl⟩)⟩))))
          ·
           exact Ae 8 (Ep ((y:Int)+1) ((y+1:Nat):Int) (Ae 2 (Om [3,4,5,8,10,15,29,30,31,63,64,65] (hJ5 _ _ (by omega:r.homes.length-(y+1)<r.homes.length-y) ⟨y+1,0,ω,rfl,⟨by rw[<-Uo,show r.rises.length=u by omega];omega,ω⟩,(.inl ⟨ω,rfl⟩)⟩))))
         ·
          refine Ae 6 (Gi 73 ((u:Int)<(r.rises.length:Int)) (λhx15 hx15d=>?_) (λhx15 hx15d=>?_))
          ·
           refine Ae 5 ?_
           have hris:=hg.2.2.2.2.2.2 u ω
           refine Ae 2 (Fl u r.rises.length (Ae 9 (Fl ((Ec r (Bn p r c k)).getD y 0) r.homes.length (Ae 2 (Cf (Jv (r.homes.getD ((Ec r (Bn p r c k)).getD y 0) V3.zero) (r.rises.getD u 0) (hg.2.2.1 _ hom).1 ⟨hris.1,hris.2.1⟩) (Ae 1 (zX 83 (Km (r.homes.getD ((Ec r (Bn p r c k)).getD y 0) V3.zero) (r.rises.getD u 0)) (λhx16=>?_) (λhx16=>?_))))))))
           ·
            refine Ae 2 (Cf (Jv (Bn p r c k) (r.rises.getD u 0) hV ⟨hris.1,hris.2.1⟩) (Ae 3 (zX 87 (Km (Bn p r c k) (r.rises.getD u 0)) (λhx17=>?_) (λhx17=>?_))))
            ·
             exact Ae 7 (Bk (.osl 61 3 1) (.new 61 (.vec 52 3 1 (λ_=> .lit (.agg #[.int .i64 (((Ec r (Bn p r c k)).getD y 0:Nat):Int),.int .i64 ((r.waits).getD k 0),.int .i64 ((r.rises).getD u 0)])))) (Aj 45 1 #[(0,(.tmp 92))] κ underlying45 3 sizeOf52 _ zeroValue52 κ β β β 61 [.int (((Ec r (Bn p r c k)).getD y 0:Nat):Int),.int ((r.waits).getD k 0),.int ((r.rises).getD u 0)] κ (λ_=> .lit (.agg #[.int .i64 (((Ec r (Bn p r c k)).getD y 0:Nat):Int),.int .i64 ((r.waits).getD k 0),.int .i64 ((r.rises).getD u 0)])) κ) (Bk (.osl 62 3 (n3+1)) (.grow2 50 61 62 (.vec 52 3 (n3+1) (λxi=>Cx ((Fg p r c k y (u+1)).getD xi Rl.none)))) (Ce (.tmp 88) (.tmp 93) 45 κ underlying45 3 24 (.agg #[.int .i64 0,.int .i64 0,.int .i64 0]) κ κ δ n3 1 ω (λxi=>Cx ((Fg p r c k y u).getD xi Rl.none)) (λ_=> .lit (.agg #[.int .i64 (((Ec r (Bn p r c k)).getD y 0:Nat):Int),.int .i64 ((r.waits).getD k 0),.int .i64 ((r.rises).getD u 0)])) (λxi=>Cx ((Fg p r c k y (u+1)).getD xi Rl.none)) 62 ω (by unfold maxLen;omega) (λi hi=>by show Cx _=Cx _;rw[Io hx16 hx17,Sx,if_pos ω]) (λi hi=>by(obtain rfl:i=0:=(ω));show Cx _=Cx ⟨(((Ec r (Bn p r c k)).getD y 0:Nat):Int),r.waits.getD k 0,r.rises.getD u 0⟩;rw[Io hx16 hx17,Sx,if_neg ω,show n3+0-(Fg p r c k y u).length=0 by omega];rfl) (λi hi j hj=>match j,hj with|0,_=>rfl|1,_=>rfl|2,_=>rfl|_+3,h=>absurd h ω) 50 κ κ 61 52 κ κ) (Ae 5 (Ep ((u:Int)+1) ((u+1:Nat):Int) (Ae 2 (Ha [3,4,5,8,10,15,20,29,30,31,63,64,65,70,71,72] [(62,50)] 61 0 hA0 [(52,3,1,(λ_=> .lit (.agg #[.int .i64 (((Ec r (Bn p r c k)).getD y 0:Nat):Int),.int .i64 ((r.waits).getD k 0),.int .i64 ((r.rises).getD u 0)]))),(52,3,n3+1,(λxi=>Cx ((Fg p r c k y (u+1)).getD xi Rl.none)))] ⟨(Gl λ_ _=>rfl),(Gl λ_ _=>rfl),trivial⟩ (hJ6 _ _ (by omega:r.rises.length-(u+1)<r.rises.length-u) ⟨u+1,n3+1,ω,rfl,⟨by rw[Io hx16 hx17,List.length_append,List.length_singleton];omega,ω⟩,(.inr ⟨ω,rfl⟩)⟩)))))))
            ·
             exact Ae 5 (Ep ((u:Int)+1) ((u+1:Nat):Int) (Ae 2 (Ww 50 52 3 n3 (λxi=>Cx ((Fg p r c k y u).getD xi Rl.none)) (λxi=>Cx ((Fg p r c k y (u+1)).getD xi Rl.none)) (λx9 hx9=>by rw[Fk (.inr hx17)]) (Om [3,4,5,8,10,15,20,29,30,31,63,64,65,70,71,72] (hJ6 _ _ (by omega:r.rises.length-(u+1)<r.rises.length-u) ⟨u+1,n3,ω,rfl,⟨by rw[Fk (.inr hx17)];omega,ω⟩,(.inr ⟨ω,rfl⟩)⟩)))))
           ·
            exact Ae 11 (Ep ((u:Int)+1) ((u+1:Nat):Int) (Ae 2 (Ww 50 52 3 n3 (λxi=>Cx ((Fg p r c k y u).getD xi Rl.none)) (λxi=>Cx ((Fg p r c k y (u+1)).getD xi Rl.none)) (λx9 hx9=>by rw[Fk (.inl hx16)]) (Om [3,4,5,8,10,15,20,29,30,31,63,64,65,70,71,72] (hJ6 _ _ (by omega:r.rises.length-(u+1)<r.rises.length-u) ⟨u+1,n3,ω,rfl,⟨by rw[Fk (.inl hx16)];omega,ω⟩,(.inr ⟨ω,rfl⟩)⟩)))))
          ·
           exact Ae 7 (Ww 50 52 3 n3 (λxi=>Cx ((Fg p r c k y u).getD xi Rl.none)) (λxi=>Cx ((Oz p r c k (y+1)).getD xi Rl.none)) (λx9 hx9=>by rw[<-Uo,show r.rises.length=u by omega]) (Ae 1 (Ep ((y:Int)+1) ((y+1:Nat):Int) (Ae 2 (Om [3,4,5,8,10,15,29,30,31,63,64,65] (hJ5 _ _ (by omega:r.homes.length-(y+1)<r.homes.length-y) ⟨y+1,n3,ω,rfl,⟨by rw[<-Uo,show r.rises.length=u by omega];omega,ω⟩,(.inr ⟨ω,rfl⟩)⟩))))))
        ·
         exact Ae 8 (Ep ((k:Int)+1) ((k+1:Nat):Int) (Ae 2 (Ha [3,4,5,8,29,30,31] [] 3 0 hA0 [] trivial (hJ1 _ _ (by omega:r.waits.length-(k+1)<r.waits.length-k) ⟨k+1,0,ω,rfl,⟨by rw[<-cL hx2,show r.homes.length=y by omega];omega,ω⟩,(.inl ⟨ω,rfl⟩)⟩))))
       ·
        refine Ae 6 (Gi 66 ((y:Int)<(r.homes.length:Int)) (λhx18 hx18d=>?_) (λhx18 hx18d=>?_))
        ·
         refine Ae 7 (Fl y r.homes.length (Ae 4 ?_))
         have hom:=Wc r (Bn p r c k) (x:=y) ω
         refine Ww 50 52 3 n2 (λxi=>Cx ((Oz p r c k y).getD xi Rl.none)) (λxi=>Cx ((Fg p r c k y 0).getD xi Rl.none)) (λx9 hx9=>by rw[cK]) (Ae 9 (dN [3,4,5,8,10,15,20,29,30,31,63,64,65,70,71,72] (λm s=>∃u n3,u<=r.rises.length/\m=r.rises.length-u/\(n3=(Fg p r c k y u).length/\n3<=k*128+y*16+u)/\((0<n3)/\s=⟨[(3,.elt 3 (λxi=>[Fd p.names,Hn p.homes,Gq p.acts].getD (0+xi) .top)),(4,Ub r),(5,.elt 2 (λxi=>[.int c.craft,.int c.act].getD (0+xi) .top)),(8,.osl 50 3 n3),(10,.int ((r.waits).getD k 0)),(15,Xg (Bn p r c k)),(20,.int (((Ec r (Bn p r c k)).getD y 0:Nat):Int)),(29,Fi r.waits),(30,.int (r.waits.length:Int)),(31,.int (k:Int)),(63,.sl 1 r.homes.length (λxi=>AV.int (((Ec r (Bn p r c k)).getD xi 0:Nat):Int))),(64,.int (r.homes.length:Int)),(65,.int (y:Int)),(70,Fi r.rises),(71,.int (r.rises.length:Int)),(72,.int (u:Int))],[(50,.vec 52 3 n3 (λxi=>Cx ((Fg p r c k y u).getD xi Rl.none)))],61,99⟩)) r.rises.length ⟨0,n2,Nat.zero_le _,rfl,⟨by rw[cK];omega,ω⟩,⟨hy0,κ⟩⟩ ?_))
         rintro _ _ ⟨u,n3,hun,rfl,hFu,(⟨hu0,rfl⟩)⟩ J7 hJ7
         ·
          refine Ae 6 (Gi 73 ((u:Int)<(r.rises.length:Int)) (λhx19 hx19d=>?_) (λhx19 hx19d=>?_))
          ·
           refine Ae 5 ?_
           have hris:=hg.2.2.2.2.2.2 u ω
           refine Ae 2 (Fl u r.rises.length (Ae 9 (Fl ((Ec r (Bn p r c k)).getD y 0) r.homes.length (Ae 2 (Cf (Jv (r.homes.getD ((Ec r (Bn p r c k)).getD y 0) V3.zero) (r.rises.getD u 0) (hg.2.2.1 _ hom).1 ⟨hris.1,hris.2.1⟩) (Ae 1 (zX 83 (Km (r.homes.getD ((Ec r (Bn p r c k)).getD y 0) V3.zero) (r.rises.getD u 0)) (λhx20=>?_) (λhx20=>?_))))))))
           ·
            refine Ae 2 (Cf (Jv (Bn p r c k) (r.rises.getD u 0) hV ⟨hris.1,hris.2.1⟩) (Ae 3 (zX 87 (Km (Bn p r c k) (r.rises.getD u 0)) (λhx21=>?_) (λhx21=>?_))))
            ·
             exact Ae 7 (Bk (.osl 61 3 1) (.new 61 (.vec 52 3 1 (λ_=> .lit (.agg #[.int .i64 (((Ec r (Bn p r c k)).getD y 0:Nat):Int),.int .i64 ((r.waits).getD k 0),.int .i64 ((r.rises).getD u 0)])))) (Aj 45 1 #[(0,(.tmp 92))] κ underlying45 3 sizeOf52 _ zeroValue52 κ β β β 61 [.int (((Ec r (Bn p r c k)).getD y 0:Nat):Int),.int ((r.waits).getD k 0),.int ((r.rises).getD u 0)] κ (λ_=> .lit (.agg #[.int .i64 (((Ec r (Bn p r c k)).getD y 0:Nat):Int),.int .i64 ((r.waits).getD k 0),.int .i64 ((r.rises).getD u 0)])) κ) (Bk (.osl 62 3 (n3+1)) (.grow2 50 61 62 (.vec 52 3 (n3+1) (λxi=>Cx ((Fg p r c k y (u+1)).getD xi Rl.none)))) (Ce (.tmp 88) (.tmp 93) 45 κ underlying45 3 24 (.agg #[.int .i64 0,.int .i64 0,.int .i64 0]) κ κ δ n3 1 ω (λxi=>Cx ((Fg p r c k y u).getD xi Rl.none)) (λ_=> .lit (.agg #[.int .i64 (((Ec r (Bn p r c k)).getD y 0:Nat):Int),.int .i64 ((r.waits).getD k 0),.int .i64 ((r.rises).getD u 0)])) (λxi=>Cx ((Fg p r c k y (u+1)).getD xi Rl.none)) 62 ω (by unfold maxLen;omega) (λi hi=>by show Cx _=Cx _;rw[Io hx20 hx21,Sx,if_pos ω]) (λi hi=>by(obtain rfl:i=0:=(ω));show Cx _=Cx ⟨(((Ec r (Bn p r c k)).getD y 0:Nat):Int),r.waits.getD k 0,r.rises.getD u 0⟩;rw[Io hx20 hx21,Sx,if_neg ω,show n3+0-(Fg p r c k y u).length=0 by omega];rfl) (λi hi j hj=>match j,hj with|0,_=>rfl|1,_=>rfl|2,_=>rfl|_+3,h=>absurd h ω) 50 κ κ 61 52 κ κ) (Ae 5 (Ep ((u:Int)+1) ((u+1:Nat):Int) (Ae 2 (Ha [3,4,5,8,10,15,20,29,30,31,63,64,65,70,71,72] [(62,50)] 61 0 hA0 [(52,3,1,(λ_=> .lit (.agg #[.int .i64 (((Ec r (Bn p r c k)).getD y 0:Nat):Int),.int .i64 ((r.waits).getD k 0),.int .i64 ((r.rises).getD u 0)]))),(52,3,n3+1,(λxi=>Cx ((Fg p r c k y (u+1)).getD xi Rl.none)))] ⟨(Gl λ_ _=>rfl),(Gl λ_ _=>rfl),trivial⟩ (hJ7 _ _ (by omega:r.rises.length-(u+1)<r.rises.length-u) ⟨u+1,n3+1,ω,rfl,⟨by rw[Io hx20 hx21,List.length_append,List.length_singleton];omega,ω⟩,⟨ω,rfl⟩⟩)))))))
            ·
             exact Ae 5 (Ep ((u:Int)+1) ((u+1:Nat):Int) (Ae 2 (Ww 50 52 3 n3 (λxi=>Cx ((Fg p r c k y u).getD xi Rl.none)) (λxi=>Cx ((Fg p r c k y (u+1)).getD xi Rl.none)) (λx9 hx9=>by rw[Fk (.inr hx21)]) (Om [3,4,5,8,10,15,20,29,30,31,63,64,65,70,71,72] (hJ7 _ _ (by omega:r.rises.length-(u+1)<r.rises.length-u) ⟨u+1,n3,ω,rfl,⟨by rw[Fk (.inr hx21)];omega,ω⟩,⟨ω,rfl⟩⟩)))))
           ·
            exact Ae 11 (Ep ((u:Int)+1) ((u+1:Nat):Int) (Ae 2 (Ww 50 52 3 n3 (λxi=>Cx ((Fg p r c k y u).getD xi Rl.none)) (λxi=>Cx ((Fg p r c k y (u+1)).getD xi Rl.none)) (λx9 hx9=>by rw[Fk (.inl hx20)]) (Om [3,4,5,8,10,15,20,29,30,31,63,64,65,70,71,72] (hJ7 _ _ (by omega:r.rises.length-(u+1)<r.rises.length-u) ⟨u+1,n3,ω,rfl,⟨by rw[Fk (.inl hx20)];omega,ω⟩,⟨ω,rfl⟩⟩)))))
          ·
           exact Ae 7 (Ww 50 52 3 n3 (λxi=>Cx ((Fg p r c k y u).getD xi Rl.none)) (λxi=>Cx ((Oz p r c k (y+1)).getD xi Rl.none)) (λx9 hx9=>by rw[<-Uo,show r.rises.length=u by omega]) (Ae 1 (Ep ((y:Int)+1) ((y+1:Nat):Int) (Ae 2 (Om [3,4,5,8,10,15,29,30,31,63,64,65] (hJ5 _ _ (by omega:r.homes.length-(y+1)<r.homes.length-y) ⟨y+1,n3,ω,rfl,⟨by rw[<-Uo,show r.rises.length=u by omega];omega,ω⟩,(.inr ⟨ω,rfl⟩)⟩))))))
        ·
         exact Ae 7 (Ww 50 52 3 n2 (λxi=>Cx ((Oz p r c k y).getD xi Rl.none)) (λxi=>Cx ((Jr p r c (k+1)).getD xi Rl.none)) (λx9 hx9=>by rw[<-cL hx2,show r.homes.length=y by omega]) (Ae 1 (Ep ((k:Int)+1) ((k+1:Nat):Int) (Ae 2 (Ha [3,4,5,8,29,30,31] [(50,50)] 51 0 hA0 [(52,3,n2,(λxi=>Cx ((Jr p r c (k+1)).getD xi Rl.none)))] ⟨(Gl λ_ _=>rfl),trivial⟩ (hJ1 _ _ (by omega:r.waits.length-(k+1)<r.waits.length-k) ⟨k+1,n2,ω,rfl,⟨by rw[<-cL hx2,show r.homes.length=y by omega];omega,ω⟩,(.inr ⟨ω,rfl⟩)⟩))))))
   ·
    exact Cf (Ux hp hg.1 hcs hg.2 ω hx2) (Ae 27 (Ep ((k:Int)+1) ((k+1:Nat):Int) (Ae 2 (Ha [3,4,5,8,29,30,31] [] 3 0 hA0 [] trivial (hJ1 _ _ (by omega:r.waits.length-(k+1)<r.waits.length-k) ⟨k+1,0,ω,rfl,⟨by rw[kG hx2];omega,ω⟩,(.inl ⟨ω,rfl⟩)⟩)))))
  ·
   exact Ae 14 (Hs (.lit (.tuple #[.slice none 0 0,.int .i64 0])) (by have hke:k=r.waits.length:=(ω);subst hke;exact(if_pos (by rw[Cj];omega)).symm))
 ·
  refine Ae 6 (Gi 32 ((k:Int)<(r.waits.length:Int)) (λhx22 hx22d=>?_) (λhx22 hx22d=>?_))
  ·
   refine Ae 7 (Fl k r.waits.length (Ae 10 ?_))
   refine Fm (dX p r c k) (λhx23=>?_) (λhx23=>?_)
   ·
    refine Cf (Tj hp hg.1 hcs hg.2 ω hx23) (Ae 19 (Gv 47 (decide ((((Nj p c (Lf p r c (r.waits.getD k 0))):Nat):Int)<0)) false (decide_eq_false ω) (Ae 5 ?_)))
    have hV:=vD hg.1 hx23
    refine Yv 51 (Ae 7 (Yv 52 (Ae 15 (dN [3,4,5,8,10,15,16,17,29,30,31,51,52] (λm s=>∃a,a<=r.homes.length/\m=r.homes.length-a/\True/\((a=0/\s=⟨[(3,.elt 3 (λxi=>[Fd p.names,Hn p.homes,Gq p.acts].getD (0+xi) .top)),(4,Ub r),(5,.elt 2 (λxi=>[.int c.craft,.int c.act].getD (0+xi) .top)),(8,.osl 50 3 n),(10,.int ((r.waits).getD k 0)),(15,Xg (Bn p r c k)),(16,iV r (Bn p r c k)),(17,.lit (.slice none 0 0)),(29,Fi r.waits),(30,.int (r.waits.length:Int)),(31,.int (k:Int)),(51,.int (r.homes.length:Int)),(52,.int ((0:Nat):Int))],[(50,.vec 52 3 n (λxi=>Cx ((Jr p r c k).getD xi Rl.none)))],53,99⟩)\/(0<a/\s=⟨[(3,.elt 3 (λxi=>[Fd p.names,Hn p.homes,Gq p.acts].getD (0+xi) .top)),(4,Ub r),(5,.elt 2 (λxi=>[.int c.craft,.int c.act].getD (0+xi) .top)),(8,.osl 50 3 n),(10,.int ((r.waits).getD k 0)),(15,Xg (Bn p r c k)),(16,iV r (Bn p r c k)),(17,.osl 60 1 a),(29,Fi r.waits),(30,.int (r.waits.length:Int)),(31,.int (k:Int)),(51,.int (r.homes.length:Int)),(52,.int (a:Int))],[(50,.vec 52 3 n (λxi=>Cx ((Jr p r c k).getD xi Rl.none))),(60,.vec 3 1 a (λxi=>AV.int (xi:Int)))],61,99⟩))) r.homes.length ⟨0,Nat.zero_le _,rfl,trivial,.inl ⟨rfl,κ⟩⟩ ?_))))
    rintro _ _ ⟨a,han,rfl,hFa,(⟨ha0,rfl⟩|⟨ha0,rfl⟩)⟩ J8 hJ8
    ·
     subst ha0
     refine Ae 6 (Gi 53 (((0:Nat):Int)<(r.homes.length:Int)) (λhx24 hx24d=>?_) (λhx24 hx24d=>?_))
     ·
      exact Ae 14 (Bk (.osl 53 1 1) (.new 53 (.vec 3 1 1 (λ_=> .int ((0:Nat):Int)))) (Aj 23 1 #[(0,(.tmp 56))] κ underlying23 1 sizeOf3 _ zeroValue3 κ β β β 53 [.int ((0:Nat):Int)] κ (λ_=> .int ((0:Nat):Int)) κ) (Bk (.osl 54 1 1) (.newr 53 54 (.vec 3 1 1 (λxi=>AV.int (xi:Int)))) (Ci (.tmp 55) (.tmp 57) 23 κ underlying23 1 8 (.int .i64 0) κ κ δ 1 ω (λ_=> .int ((0:Nat):Int)) (λxi=>AV.int (xi:Int)) 54 (λi hi=>by(obtain rfl:i=0:=(ω));rfl) (λi hi j hj=>by obtain rfl:j=0:=(ω);rfl) (by unfold maxLen;omega) ω κ 53 3 κ κ) (Ae 5 (Ep (((0:Nat):Int)+1) ((0+1:Nat):Int) (Ae 2 (Ha [3,4,5,8,10,15,16,17,29,30,31,51,52] [(50,50),(54,60)] 61 0 hA0 [(52,3,n,(λxi=>Cx ((Jr p r c k).getD xi Rl.none))),(3,1,1,(λ_=> .int ((0:Nat):Int))),(3,1,1,(λxi=>AV.int (xi:Int)))] ⟨(Gl λ_ _=>rfl),(Gl λ_ _=>rfl),(Gl λ_ _=>rfl),trivial⟩ (hJ8 _ _ (by omega:r.homes.length-(0+1)<r.homes.length-0) ⟨0+1,ω,rfl,trivial,.inr ⟨Nat.succ_pos _,rfl⟩⟩)))))))
     ·
      refine Ae 6 ?_
      exfalso;omega
    ·
     refine Ae 6 (Gi 53 ((a:Int)<(r.homes.length:Int)) (λhx25 hx25d=>?_) (λhx25 hx25d=>?_))
     ·
      exact Ae 14 (Bk (.osl 61 1 1) (.new 61 (.vec 3 1 1 (λ_=> .int (a:Int)))) (Aj 23 1 #[(0,(.tmp 56))] κ underlying23 1 sizeOf3 _ zeroValue3 κ β β β 61 [.int (a:Int)] κ (λ_=> .int (a:Int)) κ) (Bk (.osl 62 1 (a+1)) (.grow2 60 61 62 (.vec 3 1 (a+1) (λxi=>AV.int (xi:Int)))) (Ce (.tmp 55) (.tmp 57) 23 κ underlying23 1 8 (.int .i64 0) κ κ δ a 1 ω (λxi=>AV.int (xi:Int)) (λ_=> .int (a:Int)) (λxi=>AV.int (xi:Int)) 62 ω (by unfold maxLen;omega) (λi hi=>rfl) (λi hi=>by(obtain rfl:i=0:=(ω));rfl) (λi hi j hj=>by obtain rfl:j=0:=(ω);rfl) 60 κ κ 61 3 κ κ) (Ae 5 (Ep ((a:Int)+1) ((a+1:Nat):Int) (Ae 2 (Ha [3,4,5,8,10,15,16,17,29,30,31,51,52] [(50,50),(62,60)] 61 0 hA0 [(52,3,n,(λxi=>Cx ((Jr p r c k).getD xi Rl.none))),(3,1,1,(λ_=> .int (a:Int))),(3,1,a+1,(λxi=>AV.int (xi:Int)))] ⟨(Gl λ_ _=>rfl),(Gl λ_ _=>rfl),(Gl λ_ _=>rfl),trivial⟩ (hJ8 _ _ (by omega:r.homes.length-(a+1)<r.homes.length-a) ⟨a+1,ω,rfl,trivial,.inr ⟨Nat.succ_pos _,rfl⟩⟩)))))))
     ·
      refine Ae 6 ?_
      have hae:a=r.homes.length:=by omega
      subst hae
      refine Ae 4 (Yx 61 func41 (λ_ hD26=>?_))
      refine Ae 11 (Ip (.int .u64 (IntKind.wrap .u64 (r.homes.length:Int))) (.int .u64 (r.homes.length:Int)) ?_ (congrArg (Value.int .u64) (IntWalk.u64_in _ ω)))
      refine Cf (Aat _ ω) (Ae 1 (Yx 61 func76 (λ_ hD27=>?_)))
      refine Ae 11 (pO 1 (Ae 5 (Ep ((r.homes.length:Int)-0) ((r.homes.length-0:Nat):Int) (Ae 8 (Gv 25 (decide (((r.homes.length-0:Nat):Int)<=12)) true (decide_eq_true ω) (Ae 9 (Yx 61 func104 (λ_ hD28=>?_))))))))
      refine Ae 3 (Ip (.int .i64 1) (.int .i64 1) (Ae 4 (Ww 60 3 1 r.homes.length (λxi=>AV.int (xi:Int)) (λxi=>AV.int (((Lu (bI r (Bn p r c k)) (List.range r.homes.length) 0).getD xi 0:Nat):Int)) (λx9 hx9=>by show AV.int _=AV.int _;rw[Lu,Ry hx9]) (Pe [0,1,2,3,8] (r.homes.length-1) (λi=>True) (λi=>⟨[(0,.osl 60 1 r.homes.length),(1,.int 0),(2,.int (r.homes.length:Int)),(3,.fn 42 [iV r (Bn p r c k)]),(8,.int ((i+1:Nat):Int))],[(50,.vec 52 3 n (λxi=>Cx ((Jr p r c k).getD xi Rl.none))),(60,.vec 3 1 r.homes.length (λxi=>AV.int (((Lu (bI r (Bn p r c k)) (List.range r.homes.length) i).getD xi 0:Nat):Int)))],61,53⟩) trivial (λi hin hFi J9 hJ9=>?_)))))
      refine Ae 8 (Gi 14 (((i+1:Nat):Int)<(r.homes.length:Int)) (λhx29 hx29d=>?_) (λhx29 hx29d=>?_))
      ·
       refine Ae 12 (dN [0,1,2,3,8,9] (λm s=>∃j L,m=j+1/\(Tf (bI r (Bn p r c k)) L j=Lu (bI r (Bn p r c k)) (List.range r.homes.length) (i+1)/\j<=i+1/\L.length=r.homes.length/\(∀x,x<r.homes.length->L.getD x 0<r.homes.length))/\s=⟨[(0,.osl 60 1 r.homes.length),(1,.int 0),(2,.int (r.homes.length:Int)),(3,.fn 42 [iV r (Bn p r c k)]),(8,.int ((i+1:Nat):Int)),(9,.int (j:Int))],[(50,.vec 52 3 n (λxi=>Cx ((Jr p r c k).getD xi Rl.none))),(60,.vec 3 1 r.homes.length (λxi=>AV.int (((L).getD xi 0:Nat):Int)))],61,53⟩) ((i+1)+1) ⟨i+1,(Lu (bI r (Bn p r c k)) (List.range r.homes.length) i),rfl,⟨rfl,Nat.le_refl _,by rw[Na,List.length_range],gG r (Bn p r c k) ω⟩,κ⟩ ?_)
       rintro _ _ ⟨j,L,rfl,hF,rfl⟩ J10 hJ10
       obtain⟨hF1,hF2,hF3,hF4⟩:=hF
       refine Ae 2 (vsp ((0:Int)<(j:Int)) (λhx30 hx30d=>?_) (λhx30 hx30d=>?_))
       ·
        refine Jb [(2,.bool true,.none),(7,Hr (.osl 60 1 r.homes.length) j,.none),(8,.int (((L).getD j 0:Nat):Int),(.read 60)),(11,.int ((j-1:Nat):Int),.none),(12,Hr (.osl 60 1 r.homes.length) (j-1),.none),(13,.int (((L).getD (j-1) 0:Nat):Int),(.read 60)),(14,_,.none)] [0,1,2,3,8,9,34] ⟨kbD hx30,Tg j r.homes.length,Au (Bg 3 (.tmp 25) κ isAgg3 60 j 0 1 κ 3 r.homes.length (λxi=>AV.int (((L).getD xi 0:Nat):Int)) κ ω δ),Au (Bx (v:= .int .i64 (IntKind.wrap .i64 ((j:Int)-1))) (v':= .int .i64 ((j-1:Nat):Int)) _ κ rfl κ (λw=>by kernel_rfl) (congrArg (Value.int .i64) ((IntWalk.i64_in _ ω).trans ω))),Tg (j-1) r.homes.length,Au (Bg 3 (.tmp 30) κ isAgg3 60 (j-1) 0 1 κ 3 r.homes.length (λxi=>AV.int (((L).getD xi 0:Nat):Int)) κ ω δ),AcV (tA r (Bn p r c k) (L.getD j 0) (L.getD (j-1) 0) hg.2 (hF4 j ω) (hF4 (j-1) ω) hV),trivial⟩ (Ae 1 (Gi 34 (orI (Kl (Te r (Bn p r c k) (L.getD j 0)) (Te r (Bn p r c k) (L.getD (j-1) 0))) (Kl ((L.getD j 0:Nat):Int) ((L.getD (j-1) 0:Nat):Int))<0) (λhx31 hx31d=>?_) (λhx31 hx31d=>?_)))
        ·
         exact Ae 5 (Jb [(4,.int ((j-1:Nat):Int),.none),(7,.int ((j-1:Nat):Int),.none),(8,Hr (.osl 60 1 r.homes.length) (j-1),.none),(9,.int (((L).getD (j-1) 0:Nat):Int),(.read 60)),(12,Hr (.osl 60 1 r.homes.length) j,.none),(13,.int (((L).getD j 0:Nat):Int),(.read 60)),(14,Hr (.osl 60 1 r.homes.length) j,.none),(15,.lit Go.undef,(.set 60 (.vec 3 1 r.homes.length (λxi=>if xi=j then .int (((L).getD (j-1) 0:Nat):Int) else (λxi=>AV.int (((L).getD xi 0:Nat):Int)) xi)))),(16,Hr (.osl 60 1 r.homes.length) (j-1),.none),(17,.lit Go.undef,(.set 60 (.vec 3 1 r.homes.length (λxi=>if xi=j-1 then .int (((L).getD j 0:Nat):Int) else (λxi=>if xi=j then .int (((L).getD (j-1) 0:Nat):Int) else (λxi=>AV.int (((L).getD xi 0:Nat):Int)) xi) xi))))] [0,1,2,3,8,9] ⟨Au (Bx (v:= .int .i64 (IntKind.wrap .i64 ((j:Int)-1))) (v':= .int .i64 ((j-1:Nat):Int)) _ κ rfl κ (λw=>by kernel_rfl) (congrArg (Value.int .i64) ((IntWalk.i64_in _ ω).trans ω))),Au (Bx (v:= .int .i64 (IntKind.wrap .i64 ((j:Int)-1))) (v':= .int .i64 ((j-1:Nat):Int)) _ κ rfl κ (λw=>by kernel_rfl) (congrArg (Value.int .i64) ((IntWalk.i64_in _ ω).trans ω))),Tg (j-1) r.homes.length,Au (Bg 3 (.tmp 45) κ isAgg3 60 (j-1) 0 1 κ 3 r.homes.length (λxi=>AV.int (((L).getD xi 0:Nat):Int)) κ ω δ),Tg j r.homes.length,Au (Bg 3 (.tmp 49) κ isAgg3 60 j 0 1 κ 3 r.homes.length (λxi=>AV.int (((L).getD xi 0:Nat):Int)) κ ω δ),Tg j r.homes.length,Au (Ga 3 (.tmp 51) (.tmp 46) κ 1 sizeOf3 60 j κ 3 r.homes.length (λxi=>AV.int (((L).getD xi 0:Nat):Int)) κ ω κ κ κ (.int (((L).getD (j-1) 0:Nat):Int)) κ),Tg (j-1) r.homes.length,Au (Ga 3 (.tmp 52) (.tmp 50) κ 1 sizeOf3 60 (j-1) κ 3 r.homes.length (λxi=>if xi=j then .int (((L).getD (j-1) 0:Nat):Int) else (λxi=>AV.int (((L).getD xi 0:Nat):Int)) xi) κ ω κ κ κ (.int (((L).getD j 0:Nat):Int)) κ),trivial⟩ (Ae 2 (Ww 60 3 1 r.homes.length (λxi=>if xi=j-1 then .int (((L).getD j 0:Nat):Int) else (λxi=>if xi=j then .int (((L).getD (j-1) 0:Nat):Int) else (λxi=>AV.int (((L).getD xi 0:Nat):Int)) xi) xi) (λxi=>AV.int (((Ob L (j-1)).getD xi 0:Nat):Int)) (λx9 hx9=>vN L j x9 ω ω) (Ae 2 (Ep ((j:Int)-1) ((j-1:Nat):Int) (Ae 2 (Om [0,1,2,3,8,9] (hJ10 _ _ (by omega:(j-1)+1<j+1) ⟨j-1,Ob L (j-1),rfl,⟨(fI ω ((Zj r (Bn p r c k) (L.getD j 0) (L.getD (j-1) 0)).symm.trans hx31)).symm.trans hF1,ω,by rw[Kh];exact hF3,by rw[<-hF3];exact gI ω (by rw[hF3];exact hF4)⟩,rfl⟩))))))))
        ·
         refine Ae 7 ?_
         have hL:L=Lu (bI r (Bn p r c k)) (List.range r.homes.length) (i+1):=(fJ ω ((Zj r (Bn p r c k) (L.getD j 0) (L.getD (j-1) 0)).symm.trans hx31)).symm.trans hF1
         subst hL
         exact Ae 2 (Ep (((i+1:Nat):Int)+1) ((i+1+1:Nat):Int) (Ae 2 (Om [0,1,2,3,8] (hJ9 ω trivial))))
       ·
        refine Jb [(2,.bool false,.none)] [0,1,2,3,8,9,34] ⟨kbD hx30,trivial⟩ (Ae 8 ?_)
        have hL:L=Lu (bI r (Bn p r c k)) (List.range r.homes.length) (i+1):=(fK ω).symm.trans hF1
        subst hL
        exact Ae 2 (Ep (((i+1:Nat):Int)+1) ((i+1+1:Nat):Int) (Ae 2 (Om [0,1,2,3,8] (hJ9 ω trivial))))
      ·
       refine Ae 5 (sS (Ae 7 (sS (Ae 1 (sS (Ae 2 ?_))))))
       have hie:i=r.homes.length-1:=by omega
       subst hie
       refine Ww 60 3 1 r.homes.length (λxi=>AV.int (((Lu (bI r (Bn p r c k)) (List.range r.homes.length) (r.homes.length-1)).getD xi 0:Nat):Int)) (λxi=>AV.int (((Ec r (Bn p r c k)).getD xi 0:Nat):Int)) (λx9 hx9=>rfl) (Yw 60 [17] 3 1 r.homes.length (λxi=>AV.int (((Ec r (Bn p r c k)).getD xi 0:Nat):Int)) (Gl λ_ _=>rfl) (Ww 50 52 3 n (λxi=>Cx ((Jr p r c k).getD xi Rl.none)) (λxi=>Cx ((Oz p r c k 0).getD xi Rl.none)) (λx9 hx9=>by rw[rW]) (Ae 8 (dN [3,4,5,8,10,15,29,30,31,63,64,65] (λm s=>∃y n2,y<=r.homes.length/\m=r.homes.length-y/\(n2=(Oz p r c k y).length/\n2<=k*128+y*16)/\((0<n2)/\s=⟨[(3,.elt 3 (λxi=>[Fd p.names,Hn p.homes,Gq p.acts].getD (0+xi) .top)),(4,Ub r),(5,.elt 2 (λxi=>[.int c.craft,.int c.act].getD (0+xi) .top)),(8,.osl 50 3 n2),(10,.int ((r.waits).getD k 0)),(15,Xg (Bn p r c k)),(29,Fi r.waits),(30,.int (r.waits.length:Int)),(31,.int (k:Int)),(63,.sl 1 r.homes.length (λxi=>AV.int (((Ec r (Bn p r c k)).getD xi 0:Nat):Int))),(64,.int (r.homes.length:Int)),(65,.int (y:Int))],[(50,.vec 52 3 n2 (λxi=>Cx ((Oz p r c k y).getD xi Rl.none)))],61,99⟩)) r.homes.length ⟨0,n,Nat.zero_le _,rfl,⟨by rw[rW];omega,ω⟩,⟨hk0,κ⟩⟩ ?_))))
       rintro _ _ ⟨y,n2,hyn,rfl,hFy,(⟨hy0,rfl⟩)⟩ J11 hJ11
       ·
        refine Ae 6 (Gi 66 ((y:Int)<(r.homes.length:Int)) (λhx32 hx32d=>?_) (λhx32 hx32d=>?_))
        ·
         refine Ae 7 (Fl y r.homes.length (Ae 4 ?_))
         have hom:=Wc r (Bn p r c k) (x:=y) ω
         refine Ww 50 52 3 n2 (λxi=>Cx ((Oz p r c k y).getD xi Rl.none)) (λxi=>Cx ((Fg p r c k y 0).getD xi Rl.none)) (λx9 hx9=>by rw[cK]) (Ae 9 (dN [3,4,5,8,10,15,20,29,30,31,63,64,65,70,71,72] (λm s=>∃u n3,u<=r.rises.length/\m=r.rises.length-u/\(n3=(Fg p r c k y u).length/\n3<=k*128+y*16+u)/\((0<n3)/\s=⟨[(3,.elt 3 (λxi=>[Fd p.names,Hn p.homes,Gq p.acts].getD (0+xi) .top)),(4,Ub r),(5,.elt 2 (λxi=>[.int c.craft,.int c.act].getD (0+xi) .top)),(8,.osl 50 3 n3),(10,.int ((r.waits).getD k 0)),(15,Xg (Bn p r c k)),(20,.int (((Ec r (Bn p r c k)).getD y 0:Nat):Int)),(29,Fi r.waits),(30,.int (r.waits.length:Int)),(31,.int (k:Int)),(63,.sl 1 r.homes.length (λxi=>AV.int (((Ec r (Bn p r c k)).getD xi 0:Nat):Int))),(64,.int (r.homes.length:Int)),(65,.int (y:Int)),(70,Fi r.rises),(71,.int (r.rises.length:Int)),(72,.int (u:Int))],[(50,.vec 52 3 n3 (λxi=>Cx ((Fg p r c k y u).getD xi Rl.none)))],61,99⟩)) r.rises.length ⟨0,n2,Nat.zero_le _,rfl,⟨by rw[cK];omega,ω⟩,⟨hy0,κ⟩⟩ ?_))
         rintro _ _ ⟨u,n3,hun,rfl,hFu,(⟨hu0,rfl⟩)⟩ J12 hJ12
         ·
          refine Ae 6 (Gi 73 ((u:Int)<(r.rises.length:Int)) (λhx33 hx33d=>?_) (λhx33 hx33d=>?_))
          ·
           refine Ae 5 ?_
           have hris:=hg.2.2.2.2.2.2 u ω
           refine Ae 2 (Fl u r.rises.length (Ae 9 (Fl ((Ec r (Bn p r c k)).getD y 0) r.homes.length (Ae 2 (Cf (Jv (r.homes.getD ((Ec r (Bn p r c k)).getD y 0) V3.zero) (r.rises.getD u 0) (hg.2.2.1 _ hom).1 ⟨hris.1,hris.2.1⟩) (Ae 1 (zX 83 (Km (r.homes.getD ((Ec r (Bn p r c k)).getD y 0) V3.zero) (r.rises.getD u 0)) (λhx34=>?_) (λhx34=>?_))))))))
           ·
            refine Ae 2 (Cf (Jv (Bn p r c k) (r.rises.getD u 0) hV ⟨hris.1,hris.2.1⟩) (Ae 3 (zX 87 (Km (Bn p r c k) (r.rises.getD u 0)) (λhx35=>?_) (λhx35=>?_))))
            ·
             exact Ae 7 (Bk (.osl 61 3 1) (.new 61 (.vec 52 3 1 (λ_=> .lit (.agg #[.int .i64 (((Ec r (Bn p r c k)).getD y 0:Nat):Int),.int .i64 ((r.waits).getD k 0),.int .i64 ((r.rises).getD u 0)])))) (Aj 45 1 #[(0,(.tmp 92))] κ underlying45 3 sizeOf52 _ zeroValue52 κ β β β 61 [.int (((Ec r (Bn p r c k)).getD y 0:Nat):Int),.int ((r.waits).getD k 0),.int ((r.rises).getD u 0)] κ (λ_=> .lit (.agg #[.int .i64 (((Ec r (Bn p r c k)).getD y 0:Nat):Int),.int .i64 ((r.waits).getD k 0),.int .i64 ((r.rises).getD u 0)])) κ) (Bk (.osl 62 3 (n3+1)) (.grow2 50 61 62 (.vec 52 3 (n3+1) (λxi=>Cx ((Fg p r c k y (u+1)).getD xi Rl.none)))) (Ce (.tmp 88) (.tmp 93) 45 κ underlying45 3 24 (.agg #[.int .i64 0,.int .i64 0,.int .i64 0]) κ κ δ n3 1 ω (λxi=>Cx ((Fg p r c k y u).getD xi Rl.none)) (λ_=> .lit (.agg #[.int .i64 (((Ec r (Bn p r c k)).getD y 0:Nat):Int),.int .i64 ((r.waits).getD k 0),.int .i64 ((r.rises).getD u 0)])) (λxi=>Cx ((Fg p r c k y (u+1)).getD xi Rl.none)) 62 ω (by unfold maxLen;omega) (λi hi=>by show Cx _=Cx _;rw[Io hx34 hx35,Sx,if_pos ω]) (λi hi=>by(obtain rfl:i=0:=(ω));show Cx _=Cx ⟨(((Ec r (Bn p r c k)).getD y 0:Nat):Int),r.waits.getD k 0,r.rises.getD u 0⟩;rw[Io hx34 hx35,Sx,if_neg ω,show n3+0-(Fg p r c k y u).length=0 by omega];rfl) (λi hi j hj=>match j,hj with|0,_=>rfl|1,_=>rfl|2,_=>rfl|_+3,h=>absurd h ω) 50 κ κ 61 52 κ κ) (Ae 5 (Ep ((u:Int)+1) ((u+1:Nat):Int) (Ae 2 (Ha [3,4,5,8,10,15,20,29,30,31,63,64,65,70,71,72] [(62,50)] 61 0 hA0 [(52,3,1,(λ_=> .lit (.agg #[.int .i64 (((Ec r (Bn p r c k)).getD y 0:Nat):Int),.int .i64 ((r.waits).getD k 0),.int .i64 ((r.rises).getD u 0)]))),(52,3,n3+1,(λxi=>Cx ((Fg p r c k y (u+1)).getD xi Rl.none)))] ⟨(Gl λ_ _=>rfl),(Gl λ_ _=>rfl),trivial⟩ (hJ12 _ _ (by omega:r.rises.length-(u+1)<r.rises.length-u) ⟨u+1,n3+1,ω,rfl,⟨by rw[Io hx34 hx35,List.length_append,List.length_singleton];omega,ω⟩,⟨ω,rfl⟩⟩)))))))
            ·
             exact Ae 5 (Ep ((u:Int)+1) ((u+1:Nat):Int) (Ae 2 (Ww 50 52 3 n3 (λxi=>Cx ((Fg p r c k y u).getD xi Rl.none)) (λxi=>Cx ((Fg p r c k y (u+1)).getD xi Rl.none)) (λx9 hx9=>by rw[Fk (.inr hx35)]) (Om [3,4,5,8,10,15,20,29,30,31,63,64,65,70,71,72] (hJ12 _ _ (by omega:r.rises.length-(u+1)<r.rises.length-u) ⟨u+1,n3,ω,rfl,⟨by rw[Fk (.inr hx35)];omega,ω⟩,⟨ω,rfl⟩⟩)))))
           ·
            exact Ae 11 (Ep ((u:Int)+1) ((u+1:Nat):Int) (Ae 2 (Ww 50 52 3 n3 (λxi=>Cx ((Fg p r c k y u).getD xi Rl.none)) (λxi=>Cx ((Fg p r c k y (u+1)).getD xi Rl.none)) (λx9 hx9=>by rw[Fk (.inl hx34)]) (Om [3,4,5,8,10,15,20,29,30,31,63,64,65,70,71,72] (hJ12 _ _ (by omega:r.rises.length-(u+1)<r.rises.length-u) ⟨u+1,n3,ω,rfl,⟨by rw[Fk (.inl hx34)];omega,ω⟩,⟨ω,rfl⟩⟩)))))
          ·
           exact Ae 7 (Ww 50 52 3 n3 (λxi=>Cx ((Fg p r c k y u).getD xi Rl.none)) (λxi=>Cx ((Oz p r c k (y+1)).getD xi Rl.none)) (λx9 hx9=>by rw[<-Uo,show r.rises.length=u by omega]) (Ae 1 (Ep ((y:Int)+1) ((y+1:Nat):Int) (Ae 2 (Om [3,4,5,8,10,15,29,30,31,63,64,65] (hJ11 _ _ (by omega:r.homes.length-(y+1)<r.homes.length-y) ⟨y+1,n3,ω,rfl,⟨by rw[<-Uo,show r.rises.length=u by omega];omega,ω⟩,⟨ω,rfl⟩⟩))))))
        ·
         exact Ae 7 (Ww 50 52 3 n2 (λxi=>Cx ((Oz p r c k y).getD xi Rl.none)) (λxi=>Cx ((Jr p r c (k+1)).getD xi Rl.none)) (λx9 hx9=>by rw[<-cL hx23,show r.homes.length=y by omega]) (Ae 1 (Ep ((k:Int)+1) ((k+1:Nat):Int) (Ae 2 (Ha [3,4,5,8,29,30,31] [(50,50)] 51 0 hA0 [(52,3,n2,(λxi=>Cx ((Jr p r c (k+1)).getD xi Rl.none)))] ⟨(Gl λ_ _=>rfl),trivial⟩ (hJ1 _ _ (by omega:r.waits.length-(k+1)<r.waits.length-k) ⟨k+1,n2,ω,rfl,⟨by rw[<-cL hx23,show r.homes.length=y by omega];omega,ω⟩,(.inr ⟨ω,rfl⟩)⟩))))))
   ·
    exact Cf (Ux hp hg.1 hcs hg.2 ω hx23) (Ae 27 (Ep ((k:Int)+1) ((k+1:Nat):Int) (Ae 2 (Ww 50 52 3 n (λxi=>Cx ((Jr p r c k).getD xi Rl.none)) (λxi=>Cx ((Jr p r c (k+1)).getD xi Rl.none)) (λx9 hx9=>by rw[kG hx23]) (Ha [3,4,5,8,29,30,31] [(50,50)] 51 0 hA0 [(52,3,n,(λxi=>Cx ((Jr p r c (k+1)).getD xi Rl.none)))] ⟨(Gl λ_ _=>rfl),trivial⟩ (hJ1 _ _ (by omega:r.waits.length-(k+1)<r.waits.length-k) ⟨k+1,n,ω,rfl,⟨by rw[kG hx23];omega,ω⟩,(.inr ⟨ω,rfl⟩)⟩))))))
  ·
   exact Ae 13 (Yw 50 [6] 52 3 n (λxi=>Cx ((Jr p r c k).getD xi Rl.none)) (Gl λ_ _=>rfl) (Ae 1 (Hs (.tup [.sl 3 n (λxi=>Cx ((Jr p r c k).getD xi Rl.none)),.int 0]) (by have hke:k=r.waits.length:=(ω);subst hke;rw[vF,if_neg (by rw[Cj];omega),hFk.1];rfl))))
abbrev Ae6 (p:Nat->Int) (m:Nat) (a b d:Int):Nat->Int:=cN p m a b d (m-1)
theorem lB (p:Nat->Int) (a b d:Int) (ha:Cm a) (hb:Cm b) (hd:Cm d) (hdp:0<d):AF Tryz.prog 158 [Bf 0 p,WA a,WA b,WA d] (.lit (.tuple #[.slice none 0 0,.int .i64 0])):=by
 refine Cr func158 rfl λB D0 hA0=>?_
 exact Ae 13 (Cf (Pn 0 p ω (λi hi=>absurd hi (Nat.not_lt_zero i)) (.inl rfl)) (Ae 3 (Cf (Jw _ (Ic ha)) (Ae 4 (Cf (Jw _ (Ic hb)) (Ae 4 (Cf (Jw _ (Ic hd)) (Ae 11 (Cf (Uz d (Ic hd)) (Ae 3 (Gv 37 (decide (d.sign<=0)) false (decide_eq_false (by rw[Int.sign_eq_one_of_pos hdp];decide)) (Ae 20 (Gd)))))))))))))
theorem VR.nil_poly {E:Bu} {v:Value} {c:Nat->Int} {e:Int} (h:VR E (.lit (.tuple #[.slice none 0 0,.int .i64 e])) v):VR E (.tup [Bf 0 c,.int e]) v:=by
 have:=h.lit_inv
 subst this
 refine .tup _ _ _ rfl λi hi=>?_
 match i,hi with
 |0,_=>exact .sl0 _ _ _ _ _
 |1,_=>exact .lit _ _
theorem Tu (m:Nat) (p:Nat->Int) (a b d:Int) (hm:m<=6) (hp:∀i,Cm (p i)) (hl:m=0\/p (m-1)≠0) (ha:Cm a) (hb:Cm b) (hd:Cm d) (hdp:0<d):AF Tryz.prog 158 [Bf m p,WA a,WA b,WA d] (.tup [Bf (Fw (Ae6 p m a b d) m) (Ae6 p m a b d),.int 0]):=by
 cases m with
 |zero=>exact Aav (lB p a b d ha hb hd hdp) rfl (λ_ _ _ _ h=>h) λE v hv=>hv.nil_poly
 |succ k=>exact lC k p a b d ω hp (hl.resolve_left ω) ha hb hd hdp
abbrev dM (l:List Int):Nat:=Fw (Zd l) l.length
abbrev nY (l:List Int) (a b d:Int):Nat->Int:=Ae6 (Zd l) (dM l) a b d
abbrev oc (l:List Int) (a b d:Int) (i:Nat):Int:=nY l a b d i*d^(6-l.length)
abbrev on (l:List Int) (a b d:Int):Nat:=Fw (oc l a b d) (Fw (nY l a b d) (dM l))
theorem jQ {l:List Int} (h:∀i,Cm (l.getD i 0)) (hn:l.length<=6) {a b d:Int} (ha:Cm a) (hb:Cm b) (hd:Cm d) (i:Nat):Bd 500 (nY l a b d i):=by
 have:dM l<=l.length:=Hu (Zd l) l.length
 exact(mG h ha hb hd _ i).mono ω
theorem fO {l:List Int} (h:∀i,Cm (l.getD i 0)) (hn:l.length<=6) {a b d:Int} (ha:Cm a) (hb:Cm b) (hd:Cm d) (i:Nat):Bd 1000 (oc l a b d i):=
 ((jQ h hn ha hb hd i).mul ((Bd.int hd.1 hd.2).pow (6-l.length))).mono ω
theorem AbC (l:List Int) (a b d:Int) (hn:l.length<=6):on l a b d<=6:=Nat.le_trans (Hu _ _) (Nat.le_trans (Hu _ _) (Nat.le_trans (Hu _ _) hn))
abbrev Uj (l:List Int) (a b d:Int):AV:=Bf (on l a b d) (oc l a b d)
theorem lD (s:Sg) (a b d:Int) (hs:Td s) (hx0:0<s.x.length) (hx6:s.x.length<=6) (hy0:0<s.y.length) (hy6:s.y.length<=6) (hz0:0<s.z.length) (hz6:s.z.length<=6) (ha:Cm a) (hb:Cm b) (hd:Cm d) (hdp:0<d):AF Tryz.prog 141 [Cv s,.int a,.int b,.int d] (.agg [Uj s.x a b d,Uj s.y a b d,Uj s.z a b d]):=by
 have hlx:dM s.x<=s.x.length:=Hu (Zd s.x) s.x.length
 have hly:dM s.y<=s.y.length:=Hu (Zd s.y) s.y.length
 have hlz:dM s.z<=s.z.length:=Hu (Zd s.z) s.z.length
 refine Cr func141 rfl λB D0 hA0=>?_
 exact Ae 10 (Cf (sZ s) (Ae 4 (pO 3 (Ae 14 (Bk (Br s.x) .none (Dm 147 (.tmp 14) (.tmp 15) κ underlying147 1 sizeOf23 0 false isAgg23 [Br s.x,Br s.y,Br s.z] 0 κ κ ω δ β δ (Br s.x) κ) (Ae 7 (Cf (Wz s.x hx0 ω hs.x) (Ae 11 (Cf (Gx a ha.1 ha.2) (Ae 1 (Cf (Gx b hb.1 hb.2) (Ae 1 (Cf (Gx d hd.1 hd.2) (Cf (Tu (dM s.x) (Zd s.x) a b d ω hs.x (Jt _ _) ha hb hd hdp) (Ae 12 (Ep ((6:Int)-(s.x.length:Int)) ((6-s.x.length:Nat):Int) (Cf (Gn d (6-s.x.length) hd.1 hd.2 ω (λj hj=>Eo hd ω)) (Cf (aB (Fw (nY s.x a b d) (dM s.x)) (nY s.x a b d) (d^(6-s.x.length)) (by have:=Hu (nY s.x a b d) (dM s.x);omega) (λi _=>(jQ hs.x hx6 ha hb hd i).fit ω) (Jt _ _) (Eo hd ω) (λi _=>(fO hs.x hx6 ha hb hd i).fit ω)) (Ae 3 (Bk (.ptr 1 0) .none (Bj 203 (.tmp 8) (.tmp 36) κ underlying203 1 0 1 0 0 κ κ sizeOf202 δ ω δ) (Ae 5 (Ip (.int .i64 1) (.int .i64 1) (Ae 17 (Bk (Br s.y) .none (Dm 147 (.tmp 14) (.tmp 15) κ underlying147 1 sizeOf23 1 false isAgg23 [Br s.x,Br s.y,Br s.z] 1 κ κ ω δ β δ (Br s.y) κ) (Ae 7 (Cf (Wz s.y hy0 ω hs.y) (Ae 11 (Cf (Gx a ha.1 ha.2) (Ae 1 (Cf (Gx b hb.1 hb.2) (Ae 1 (Cf (Gx d hd.1 hd.2) (Cf (Tu (dM s.y) (Zd s.y) a b d ω hs.y (Jt _ _) ha hb hd hdp) (Ae 12 (Ep ((6:Int)-(s.y.length:Int)) ((6-s.y.length:Nat):Int) (Cf (Gn d (6-s.y.length) hd.1 hd.2 ω (λj hj=>Eo hd ω)) (Cf (aB (Fw (nY s.y a b d) (dM s.y)) (nY s.y a b d) (d^(6-s.y.length)) (by have:=Hu (nY s.y a b d) (dM s.y);omega) (λi _=>(jQ hs.y hy6 ha hb hd i).fit ω) (Jt _ _) (Eo hd ω) (λi _=>(fO hs.y hy6 ha hb hd i).fit ω)) (Ae 3 (Bk (.ptr 1 1) .none (Bj 203 (.tmp 8) (.tmp 36) κ underlying203 1 0 1 1 1 κ κ sizeOf202 δ ω δ) (Ae 5 (Ip (.int .i64 2) (.int .i64 2) (Ae 17 (Bk (Br s.z) .none (Dm 147 (.tmp 14) (.tmp 15) κ underlying147 1 sizeOf23 2 false isAgg23 [Br s.x,Br s.y,Br s.z] 2 κ κ ω δ β δ (Br s.z) κ) (Ae 7 (Cf (Wz s.z hz0 ω hs.z) (Ae 11 (Cf (Gx a ha.1 ha.2) (Ae 1 (Cf (Gx b hb.1 hb.2) (Ae 1 (Cf (Gx d hd.1 hd.2) (Cf (Tu (dM s.z) (Zd s.z) a b d ω hs.z (Jt _ _) ha hb hd hdp) (Ae 12 (Ep ((6:Int)-(s.z.length:Int)) ((6-s.z.length:Nat):Int) (Cf (Gn d (6-s.z.length) hd.1 hd.2 ω (λj hj=>Eo hd ω)) (Cf (aB (Fw (nY s.z a b d) (dM s.z)) (nY s.z a b d) (d^(6-s.z.length)) (by have:=Hu (nY s.z a b d) (dM s.z);omega) (λi _=>(jQ hs.z hz6 ha hb hd i).fit ω) (Jt _ _) (Eo hd ω) (λi _=>(fO hs.z hz6 ha hb hd i).fit ω)) (Ae 3 (Bk (.ptr 1 2) .none (Bj 203 (.tmp 8) (.tmp 36) κ underlying203 1 0 1 2 2 κ κ sizeOf202 δ ω δ) (Ae 5 (Ip (.int .i64 3) (.int .i64 3) (Ae 22 (Gd))))))))))))))))))))))))))))))))))))))))))))))))))))))))))))))
def gF (c:Nat->Int) (g:Int):Nat->Int
 |0=>g
 |k+1=>(Nat.gcd (gF c g k).natAbs (c k).natAbs:Int)
theorem uE {c:Nat->Int} {g:Int} {n:Nat} (hg:Bd 1000 g) (hc:∀i,i<n->Bd 1000 (c i)):∀k,k<=n->Bd 1000 (gF c g k)
 |0,_=>hg
 |k+1,h=>(uE hg hc k ω).gcd (hc k ω)
theorem jI {c:Nat->Int} {g:Int} (hg:0<g):∀k,0<gF c g k
 |0=>hg
 |k+1=>by
  have h1:=jI (c:=c) hg k
  have:0<Nat.gcd (gF c g k).natAbs (c k).natAbs:=Nat.gcd_pos_of_pos_left _ ω
  rw[gF];omega
def iR (z:Int):Int:=if -9223372036854775808<=z/\z<=9223372036854775807 then z else 0
def iE (z:Int):Int:=if -9223372036854775808<=z/\z<=9223372036854775807 then 0 else 3
theorem Af5 {z:Int} (h:Cm z):iR z=z:=if_pos h
theorem Mr (z:Int) (h:Fp z):AF Tryz.prog 68 [WA z] (.lit (.tuple #[.int .i64 (iR z),.int .i64 (iE z)])):=Jc (vs:=[_]) λw=>by
 unfold iR iE
 by_cases h0: -9223372036854775808<=z/\z<=9223372036854775807
 rw[if_pos h0,if_pos h0];exact pR z w h0.1 h0.2
 rw[if_neg h0,if_neg h0];exact pQ z w h h0
theorem lP (x y:Int) (hx:Fp x) (hy:Fp y):AF Tryz.prog 147 [WA x,WA y] (.int (x-y).sign):=Jc (vs:=[_,_]) λw=>Wt x y w hx hy
def Jq (n:Nat) (c:Nat->Int) (g:Int) (i:Nat):Int:=if i<n then iR (c i/g) else 0
def gM (nx ny nz:Nat) (cx cy cz:Nat->Int) (o:Int):Int:=gF cz (gF cy (gF cx o nx) ny) nz
abbrev sB:Co:= .box 81 [.int 0,.int 0,.int 0,.lit (.slice none 0 0),.lit (.slice none 0 0),.lit (.slice none 0 0)]
def Yg (f t:Int) (nx ny nz:Nat) (cx cy cz:Nat->Int) (o:Int):AV:=if (0:Int)<(o/gM nx ny nz cx cy cz o-4294967296).sign then .lit (.tuple #[.agg #[.int .i64 f,.int .i64 t,.int .i64 0,.slice none 0 0,.slice none 0 0,.slice none 0 0],.bool false]) else .tup [.agg [.int f,.int t,.int (iR (o/gM nx ny nz cx cy cz o)),.sl 1 (max nx 1) (λxi=> .int (Jq nx cx (gM nx ny nz cx cy cz o) xi)),.sl 1 (max ny 1) (λxi=> .int (Jq ny cy (gM nx ny nz cx cy cz o) xi)),.sl 1 (max nz 1) (λxi=> .int (Jq nz cz (gM nx ny nz cx cy cz o) xi))],.bool true]
theorem AcB (f t:Int) (nx ny nz:Nat) (cx cy cz:Nat->Int) (o:Int) (hnx:nx<=6) (hny:ny<=6) (hnz:nz<=6) (hx:∀i,i<nx->Bd 1000 (cx i)) (hy:∀i,i<ny->Bd 1000 (cy i)) (hz:∀i,i<nz->Bd 1000 (cz i)) (bo:Bd 1000 o) (ho:0<o):AF Tryz.prog 140 [.int f,.int t,.agg [Bf nx cx,Bf ny cy,Bf nz cz],WA o] (Yg f t nx ny nz cx cy cz o):=by
 have b0:=bo
 have bx:=uE b0 hx
 have b1:=bx nx (Nat.le_refl _)
 have bY:=uE b1 hy
 have b2:=bY ny (Nat.le_refl _)
 have bz:=uE b2 hz
 have bG:Bd 1000 (gM nx ny nz cx cy cz o):=bz nz (Nat.le_refl _)
 have pG:0<gM nx ny nz cx cy cz o:=jI (jI (jI ho nx) ny) nz
 have hk:=Gx 4294967296 δ δ
 have h32:Fp 4294967296:=Jp δ δ
 refine Cr func140 rfl λB D0 hA0=>?_
 refine Ae 23 (pO 3 (Ae 13 (Bk (Bf nx cx) .none (Dm 203 (.tmp 24) (.tmp 25) κ underlying203 1 sizeOf202 0 false isAgg202 [Bf nx cx,Bf ny cy,Bf nz cz] 0 κ κ ω δ β δ (Bf nx cx) κ) (Ae 11 (zW (keep:=[0,1,6,7,8,10,24,25,28,29,30]) nx (λk=>⟨[(0,.int f),(1,.int t),(6,.ptr 0 0),(7,.ptr 1 0),(8,.ptr 2 0),(10,.ptr 3 0),(24,.agg [Bf nx cx,Bf ny cy,Bf nz cz]),(25,.int 0),(28,Bf nx cx),(29,.int (nx:Int)),(30,.int (k:Int))],[(0,.box 203 [Bf nx cx,Bf ny cy,Bf nz cz]),(1,wB o),(2,sB),(3,wB (gF cx o k))],4,98⟩) (λk hk J1 hJ1=>?_) ?_)))))
 ·
  exact Ae 3 (Gv 31 (decide ((k:Int)<(nx:Int))) true (decide_eq_true ω) (Ae 10 (Fl k nx (Ae 8 (Cf (Sk _ _ ((bx k ω).fit ω) ((hx k ω).fit ω)) (Ae 5 (Ep ((k:Int)+1) ((k+1:Nat):Int) (Ae 2 (Ha [0,1,6,7,8,10,24,25,28,29,30] [(0,0),(1,1),(2,2),(3,3)] 4 0 hA0 [] trivial hJ1)))))))))
 ·
  refine Ae 3 (Gv 31 (decide ((nx:Int)<(nx:Int))) false (decide_eq_false ω) (Ae 11 (Ip (.int .i64 1) (.int .i64 1) (Ae 16 (Bk (Bf ny cy) .none (Dm 203 (.tmp 24) (.tmp 25) κ underlying203 1 sizeOf202 1 false isAgg202 [Bf nx cx,Bf ny cy,Bf nz cz] 1 κ κ ω δ β δ (Bf ny cy) κ) (Ae 11 (zW (keep:=[0,1,6,7,8,10,24,25,28,29,30]) ny (λk=>⟨[(0,.int f),(1,.int t),(6,.ptr 0 0),(7,.ptr 1 0),(8,.ptr 2 0),(10,.ptr 3 0),(24,.agg [Bf nx cx,Bf ny cy,Bf nz cz]),(25,.int 1),(28,Bf ny cy),(29,.int (ny:Int)),(30,.int (k:Int))],[(0,.box 203 [Bf nx cx,Bf ny cy,Bf nz cz]),(1,wB o),(2,sB),(3,wB (gF cy (gF cx o nx) k))],4,98⟩) (λk hk J2 hJ2=>?_) ?_)))))))
  ·
   exact Ae 3 (Gv 31 (decide ((k:Int)<(ny:Int))) true (decide_eq_true ω) (Ae 10 (Fl k ny (Ae 8 (Cf (Sk _ _ ((bY k ω).fit ω) ((hy k ω).fit ω)) (Ae 5 (Ep ((k:Int)+1) ((k+1:Nat):Int) (Ae 2 (Ha [0,1,6,7,8,10,24,25,28,29,30] [(0,0),(1,1),(2,2),(3,3)] 4 0 hA0 [] trivial hJ2)))))))))
  ·
   refine Ae 3 (Gv 31 (decide ((ny:Int)<(ny:Int))) false (decide_eq_false ω) (Ae 11 (Ip (.int .i64 2) (.int .i64 2) (Ae 16 (Bk (Bf nz cz) .none (Dm 203 (.tmp 24) (.tmp 25) κ underlying203 1 sizeOf202 2 false isAgg202 [Bf nx cx,Bf ny cy,Bf nz cz] 2 κ κ ω δ β δ (Bf nz cz) κ) (Ae 11 (zW (keep:=[0,1,6,7,8,10,24,25,28,29,30]) nz (λk=>⟨[(0,.int f),(1,.int t),(6,.ptr 0 0),(7,.ptr 1 0),(8,.ptr 2 0),(10,.ptr 3 0),(24,.agg [Bf nx cx,Bf ny cy,Bf nz cz]),(25,.int 2),(28,Bf nz cz),(29,.int (nz:Int)),(30,.int (k:Int))],[(0,.box 203 [Bf nx cx,Bf ny cy,Bf nz cz]),(1,wB o),(2,sB),(3,wB (gF cz (gF cy (gF cx o nx) ny) k))],4,98⟩) (λk hk J3 hJ3=>?_) ?_)))))))
   ·
    exact Ae 3 (Gv 31 (decide ((k:Int)<(nz:Int))) true (decide_eq_true ω) (Ae 10 (Fl k nz (Ae 8 (Cf (Sk _ _ ((bz k ω).fit ω) ((hz k ω).fit ω)) (Ae 5 (Ep ((k:Int)+1) ((k+1:Nat):Int) (Ae 2 (Ha [0,1,6,7,8,10,24,25,28,29,30] [(0,0),(1,1),(2,2),(3,3)] 4 0 hA0 [] trivial hJ3)))))))))
   ·
    refine Ae 3 (Gv 31 (decide ((nz:Int)<(nz:Int))) false (decide_eq_false ω) (Ae 11 (Ip (.int .i64 3) (.int .i64 3) (Ae 28 (Cf (Hz _ _ (bo.fit ω) (bG.fit ω) ω) (Ae 6 (Jb [(1,_,.none),(2,_,.none)] [6,8,10,15,16,48] ⟨El hk,El (lP (o/(gM nx ny nz cx cy cz o)) 4294967296 ((bo.div _).fit ω) h32),trivial⟩ (Ae 1 (Gi 48 ((0:Int)<(o/gM nx ny nz cx cy cz o-4294967296).sign) (λhx1 hx1d=>?_) (λhx1 hx1d=>?_))))))))))
    ·
     exact Ae 10 (Hs (.lit (.tuple #[.agg #[.int .i64 f,.int .i64 t,.int .i64 0,.slice none 0 0,.slice none 0 0,.slice none 0 0],.bool false])) (show (.lit _:AV)=_ by unfold Yg;rw[if_pos hx1d]))
    ·
     refine Ae 6 (Cf (Mr (o/(gM nx ny nz cx cy cz o)) ((bo.div _).fit ω)) (Ae 18 (pO 3 (Ae 9 (vjn ⟨[(6,.ptr 0 0),(8,.ptr 2 0),(10,.ptr 3 0),(15,.ptr 4 0),(59,.agg [.ptr 4 3,.ptr 4 4,.ptr 4 5]),(60,.int 0)],[(0,.box 203 [Bf nx cx,Bf ny cy,Bf nz cz]),(1,wB o),(2,sB),(3,wB (gM nx ny nz cx cy cz o)),(4,.box 81 [.int f,.int t,.int (iR (o/(gM nx ny nz cx cy cz o))),.sl 1 (max nx 1) (λxi=> .int (Jq nx cx (gM nx ny nz cx cy cz o) xi)),.lit (.slice none 0 0),.lit (.slice none 0 0)]),(5,wB (o/(gM nx ny nz cx cy cz o)))],30,98⟩ ?_ (λJ4 hJ4=>?_))))))
     ·
      refine Ae 1 (Ip (.int .i64 1) (.int .i64 1) (Ae 12 (vjn ⟨[(6,.ptr 0 0),(8,.ptr 2 0),(10,.ptr 3 0),(15,.ptr 4 0),(59,.agg [.ptr 4 3,.ptr 4 4,.ptr 4 5]),(60,.int 1)],[(0,.box 203 [Bf nx cx,Bf ny cy,Bf nz cz]),(1,wB o),(2,sB),(3,wB (gM nx ny nz cx cy cz o)),(4,.box 81 [.int f,.int t,.int (iR (o/(gM nx ny nz cx cy cz o))),.sl 1 (max nx 1) (λxi=> .int (Jq nx cx (gM nx ny nz cx cy cz o) xi)),.sl 1 (max ny 1) (λxi=> .int (Jq ny cy (gM nx ny nz cx cy cz o) xi)),.lit (.slice none 0 0)]),(5,wB (o/(gM nx ny nz cx cy cz o)))],32,98⟩ ?_ (λJ5 hJ5=>?_))))
      ·
       refine Ae 1 (Ip (.int .i64 2) (.int .i64 2) (Ae 12 (vjn ⟨[(6,.ptr 0 0),(8,.ptr 2 0),(10,.ptr 3 0),(15,.ptr 4 0),(59,.agg [.ptr 4 3,.ptr 4 4,.ptr 4 5]),(60,.int 2)],[(0,.box 203 [Bf nx cx,Bf ny cy,Bf nz cz]),(1,wB o),(2,sB),(3,wB (gM nx ny nz cx cy cz o)),(4,.box 81 [.int f,.int t,.int (iR (o/(gM nx ny nz cx cy cz o))),.sl 1 (max nx 1) (λxi=> .int (Jq nx cx (gM nx ny nz cx cy cz o) xi)),.sl 1 (max ny 1) (λxi=> .int (Jq ny cy (gM nx ny nz cx cy cz o) xi)),.sl 1 (max nz 1) (λxi=> .int (Jq nz cz (gM nx ny nz cx cy cz o) xi))]),(5,wB (o/(gM nx ny nz cx cy cz o)))],34,98⟩ ?_ (λJ6 hJ6=>?_))))
       ·
        exact Ae 1 (Ip (.int .i64 3) (.int .i64 3) (Ae 23 (Hs (.tup [.agg [.int f,.int t,.int (iR (o/(gM nx ny nz cx cy cz o))),.sl 1 (max nx 1) (λxi=> .int (Jq nx cx (gM nx ny nz cx cy cz o) xi)),.sl 1 (max ny 1) (λxi=> .int (Jq ny cy (gM nx ny nz cx cy cz o) xi)),.sl 1 (max nz 1) (λxi=> .int (Jq nz cz (gM nx ny nz cx cy cz o) xi))],.bool true]) (show (.tup [.agg [_,_,_,_,_,_],_]:AV)=_ by unfold Yg;rw[if_neg hx1d]))))
       ·
        refine Ae 4 (Bk (.ptr 4 5) .none (Dm 222 (.tmp 59) (.tmp 60) κ underlying222 1 sizeOf221 2 false isAgg221 [.ptr 4 3,.ptr 4 4,.ptr 4 5] 2 κ κ ω δ β δ (.ptr 4 5) κ) (Ae 8 (Bk (.ptr 0 2) .none (Bj 203 (.tmp 6) (.tmp 64) κ underlying203 0 0 1 2 2 κ κ sizeOf202 δ ω δ) (Ae 6 (dN [6,8,10,15,18,59,60,66,67,68] (λm s=>∃k,k<=nz/\m=nz-k/\True/\((k=0/\s=⟨[(6,.ptr 0 0),(8,.ptr 2 0),(10,.ptr 3 0),(15,.ptr 4 0),(18,.ptr 4 5),(59,.agg [.ptr 4 3,.ptr 4 4,.ptr 4 5]),(60,.int 2),(66,Bf nz cz),(67,.int (nz:Int)),(68,.int ((0:Nat):Int))],[(0,.box 203 [Bf nx cx,Bf ny cy,Bf nz cz]),(1,wB o),(2,sB),(3,wB (gM nx ny nz cx cy cz o)),(4,.box 81 [.int f,.int t,.int (iR (o/(gM nx ny nz cx cy cz o))),.sl 1 (max nx 1) (λxi=> .int (Jq nx cx (gM nx ny nz cx cy cz o) xi)),.sl 1 (max ny 1) (λxi=> .int (Jq ny cy (gM nx ny nz cx cy cz o) xi)),.lit (.slice none 0 0)]),(5,wB (o/(gM nx ny nz cx cy cz o)))],32,98⟩)\/(0<k/\s=⟨[(6,.ptr 0 0),(8,.ptr 2 0),(10,.ptr 3 0),(15,.ptr 4 0),(18,.ptr 4 5),(59,.agg [.ptr 4 3,.ptr 4 4,.ptr 4 5]),(60,.int 2),(66,Bf nz cz),(67,.int (nz:Int)),(68,.int (k:Int))],[(0,.box 203 [Bf nx cx,Bf ny cy,Bf nz cz]),(1,wB o),(2,sB),(3,wB (gM nx ny nz cx cy cz o)),(4,.box 81 [.int f,.int t,.int (iR (o/(gM nx ny nz cx cy cz o))),.sl 1 (max nx 1) (λxi=> .int (Jq nx cx (gM nx ny nz cx cy cz o) xi)),.sl 1 (max ny 1) (λxi=> .int (Jq ny cy (gM nx ny nz cx cy cz o) xi)),.osl 20 1 k]),(5,wB (o/(gM nx ny nz cx cy cz o))),(20,.vec 3 1 k (λxi=> .int (Jq nz cz (gM nx ny nz cx cy cz o) xi)))],21,98⟩))) nz ⟨0,Nat.zero_le _,rfl,trivial,.inl ⟨rfl,κ⟩⟩ ?_)))))
        rintro _ _ ⟨k,hkn,rfl,hFk,(⟨hk0,rfl⟩|⟨hk0,rfl⟩)⟩ J7 hJ7
        ·
         subst hk0
         refine Ae 6 (Gi 69 (((0:Nat):Int)<(nz:Int)) (λhx2 hx2d=>?_) (λhx2 hx2d=>?_))
         ·
          exact Ae 7 (Fl 0 nz (Ae 9 (Cf (Hz (cz 0) (gM nx ny nz cx cy cz o) ((hz _ ω).fit ω) (bG.fit ω) ω) (Cf (Mr (cz 0/(gM nx ny nz cx cy cz o)) (((hz _ ω).div _).fit ω)) (Ae 13 (Bk (.osl 33 1 1) (.new 33 (.vec 3 1 1 (λ_=> .int (iR (cz 0/(gM nx ny nz cx cy cz o)))))) (Aj 23 1 #[(0,(.tmp 83))] κ underlying23 1 sizeOf3 _ zeroValue3 κ β β β 33 [.int (iR (cz 0/(gM nx ny nz cx cy cz o)))] κ (λ_=> .int (iR (cz 0/(gM nx ny nz cx cy cz o)))) κ) (Bk (.osl 34 1 1) (.newr 33 34 (.vec 3 1 1 (λxi=> .int (Jq nz cz (gM nx ny nz cx cy cz o) xi)))) (Ci (.tmp 82) (.tmp 84) 23 κ underlying23 1 8 (.int .i64 0) κ κ δ 1 ω (λ_=> .int (iR (cz 0/(gM nx ny nz cx cy cz o)))) (λxi=> .int (Jq nz cz (gM nx ny nz cx cy cz o) xi)) 34 (λi hi=>by(obtain rfl:i=0:=(ω));show AV.int (Jq _ _ _ _)=_;rw[Jq,if_pos ω]<;>rfl) (λi hi j hj=>by obtain rfl:j=0:=(ω);rfl) (by unfold maxLen;omega) ω κ 33 3 κ κ) (Ae 6 (Ep (((0:Nat):Int)+1) ((0+1:Nat):Int) (Ae 2 (Ha [6,8,10,15,18,59,60,66,67,68] [(0,0),(1,1),(2,2),(3,3),(4,4),(5,5),(34,20)] 21 0 hA0 [(3,1,1,(λ_=> .int (iR (cz 0/(gM nx ny nz cx cy cz o))))),(3,1,1,(λxi=> .int (Jq nz cz (gM nx ny nz cx cy cz o) xi)))] ⟨(Gl λ_ _=>rfl),(Gl λ_ _=>rfl),trivial⟩ (hJ7 _ _ (by omega:nz-(0+1)<nz-0) ⟨0+1,ω,rfl,trivial,.inr ⟨Nat.succ_pos _,rfl⟩⟩))))))))))))
         ·
          exact Ae 6 (zY 33 (Ae 12 (Bk (.osl 33 1 1) (.new 33 (.vec 3 1 1 (λ_=> .int 0))) (Aj 23 1 #[(0,(.const (.int .i64 0)))] κ underlying23 1 sizeOf3 _ zeroValue3 κ β β β 33 [.int 0] κ (λ_=> .int 0) κ) (Yw 33 [94] 3 1 1 (λ_=> .int 0) (Gl λ_ _=>rfl) (Ae 4 (Om [6,8,10,15,59,60] hJ6 (hs:=(by rw[show nz=0 by omega];kernel_rfl))))))))
        ·
         refine Ae 6 (Gi 69 ((k:Int)<(nz:Int)) (λhx3 hx3d=>?_) (λhx3 hx3d=>?_))
         ·
          exact Ae 7 (Fl k nz (Ae 9 (Cf (Hz (cz k) (gM nx ny nz cx cy cz o) ((hz _ ω).fit ω) (bG.fit ω) ω) (Cf (Mr (cz k/(gM nx ny nz cx cy cz o)) (((hz _ ω).div _).fit ω)) (Ae 13 (Bk (.osl 22 1 1) (.new 22 (.vec 3 1 1 (λ_=> .int (iR (cz k/(gM nx ny nz cx cy cz o)))))) (Aj 23 1 #[(0,(.tmp 83))] κ underlying23 1 sizeOf3 _ zeroValue3 κ β β β 22 [.int (iR (cz k/(gM nx ny nz cx cy cz o)))] κ (λ_=> .int (iR (cz k/(gM nx ny nz cx cy cz o)))) κ) (Bk (.osl 23 1 (k+1)) (.grow2 20 22 23 (.vec 3 1 (k+1) (λxi=> .int (Jq nz cz (gM nx ny nz cx cy cz o) xi)))) (Ce (.tmp 82) (.tmp 84) 23 κ underlying23 1 8 (.int .i64 0) κ κ δ k 1 ω (λxi=> .int (Jq nz cz (gM nx ny nz cx cy cz o) xi)) (λ_=> .int (iR (cz k/(gM nx ny nz cx cy cz o)))) (λxi=> .int (Jq nz cz (gM nx ny nz cx cy cz o) xi)) 23 ω (by unfold maxLen;omega) (λi hi=>rfl) (λi hi=>by(obtain rfl:i=0:=(ω));show AV.int (Jq _ _ _ _)=_;rw[Jq,if_pos ω]<;>rfl) (λi hi j hj=>by obtain rfl:j=0:=(ω);rfl) 20 κ κ 22 3 κ κ) (Ae 6 (Ep ((k:Int)+1) ((k+1:Nat):Int) (Ae 2 (Ha [6,8,10,15,18,59,60,66,67,68] [(0,0),(1,1),(2,2),(3,3),(4,4),(5,5),(23,20)] 21 0 hA0 [(3,1,1,(λ_=> .int (iR (cz k/(gM nx ny nz cx cy cz o))))),(3,1,k+1,(λxi=> .int (Jq nz cz (gM nx ny nz cx cy cz o) xi)))] ⟨(Gl λ_ _=>rfl),(Gl λ_ _=>rfl),trivial⟩ (hJ7 _ _ (by omega:nz-(k+1)<nz-k) ⟨k+1,ω,rfl,trivial,.inr ⟨Nat.succ_pos _,rfl⟩⟩))))))))))))
         ·
          refine Ae 6 (sQ 20 4 5 3 1 k (λxi=> .int (Jq nz cz (gM nx ny nz cx cy cz o) xi)) (Gl λ_ _=>rfl) ?_)
          have hke:k=max nz 1:=by omega
          subst hke
          exact zY 34 (Ae 7 (Gv 92 (decide (((max nz 1:Nat):Int)=0)) false (decide_eq_false ω) (Ae 5 (Om [6,8,10,15,59,60] hJ6))))
      ·
       refine Ae 4 (Bk (.ptr 4 4) .none (Dm 222 (.tmp 59) (.tmp 60) κ underlying222 1 sizeOf221 1 false isAgg221 [.ptr 4 3,.ptr 4 4,.ptr 4 5] 1 κ κ ω δ β δ (.ptr 4 4) κ) (Ae 8 (Bk (.ptr 0 1) .none (Bj 203 (.tmp 6) (.tmp 64) κ underlying203 0 0 1 1 1 κ κ sizeOf202 δ ω δ) (Ae 6 (dN [6,8,10,15,18,59,60,66,67,68] (λm s=>∃k,k<=ny/\m=ny-k/\True/\((k=0/\s=⟨[(6,.ptr 0 0),(8,.ptr 2 0),(10,.ptr 3 0),(15,.ptr 4 0),(18,.ptr 4 4),(59,.agg [.ptr 4 3,.ptr 4 4,.ptr 4 5]),(60,.int 1),(66,Bf ny cy),(67,.int (ny:Int)),(68,.int ((0:Nat):Int))],[(0,.box 203 [Bf nx cx,Bf ny cy,Bf nz cz]),(1,wB o),(2,sB),(3,wB (gM nx ny nz cx cy cz o)),(4,.box 81 [.int f,.int t,.int (iR (o/(gM nx ny nz cx cy cz o))),.sl 1 (max nx 1) (λxi=> .int (Jq nx cx (gM nx ny nz cx cy cz o) xi)),.lit (.slice none 0 0),.lit (.slice none 0 0)]),(5,wB (o/(gM nx ny nz cx cy cz o)))],30,98⟩)\/(0<k/\s=⟨[(6,.ptr 0 0),(8,.ptr 2 0),(10,.ptr 3 0),(15,.ptr 4 0),(18,.ptr 4 4),(59,.agg [.ptr 4 3,.ptr 4 4,.ptr 4 5]),(60,.int 1),(66,Bf ny cy),(67,.int (ny:Int)),(68,.int (k:Int))],[(0,.box 203 [Bf nx cx,Bf ny cy,Bf nz cz]),(1,wB o),(2,sB),(3,wB (gM nx ny nz cx cy cz o)),(4,.box 81 [.int f,.int t,.int (iR (o/(gM nx ny nz cx cy cz o))),.sl 1 (max nx 1) (λxi=> .int (Jq nx cx (gM nx ny nz cx cy cz o) xi)),.osl 20 1 k,.lit (.slice none 0 0)]),(5,wB (o/(gM nx ny nz cx cy cz o))),(20,.vec 3 1 k (λxi=> .int (Jq ny cy (gM nx ny nz cx cy cz o) xi)))],21,98⟩))) ny ⟨0,Nat.zero_le _,rfl,trivial,.inl ⟨rfl,κ⟩⟩ ?_)))))
       rintro _ _ ⟨k,hkn,rfl,hFk,(⟨hk0,rfl⟩|⟨hk0,rfl⟩)⟩ J8 hJ8
       ·
        subst hk0
        refine Ae 6 (Gi 69 (((0:Nat):Int)<(ny:Int)) (λhx4 hx4d=>?_) (λhx4 hx4d=>?_))
        ·
         exact Ae 7 (Fl 0 ny (Ae 9 (Cf (Hz (cy 0) (gM nx ny nz cx cy cz o) ((hy _ ω).fit ω) (bG.fit ω) ω) (Cf (Mr (cy 0/(gM nx ny nz cx cy cz o)) (((hy _ ω).div _).fit ω)) (Ae 13 (Bk (.osl 31 1 1) (.new 31 (.vec 3 1 1 (λ_=> .int (iR (cy 0/(gM nx ny nz cx cy cz o)))))) (Aj 23 1 #[(0,(.tmp 83))] κ underlying23 1 sizeOf3 _ zeroValue3 κ β β β 31 [.int (iR (cy 0/(gM nx ny nz cx cy cz o)))] κ (λ_=> .int (iR (cy 0/(gM nx ny nz cx cy cz o)))) κ) (Bk (.osl 32 1 1) (.newr 31 32 (.vec 3 1 1 (λxi=> .int (Jq ny cy (gM nx ny nz cx cy cz o) xi)))) (Ci (.tmp 82) (.tmp 84) 23 κ underlying23 1 8 (.int .i64 0) κ κ δ 1 ω (λ_=> .int (iR (cy 0/(gM nx ny nz cx cy cz o)))) (λxi=> .int (Jq ny cy (gM nx ny nz cx cy cz o) xi)) 32 (λi hi=>by(obtain rfl:i=0:=(ω));show AV.int (Jq _ _ _ _)=_;rw[Jq,if_pos ω]<;>rfl) (λi hi j hj=>by obtain rfl:j=0:=(ω);rfl) (by unfold maxLen;omega) ω κ 31 3 κ κ) (Ae 6 (Ep (((0:Nat):Int)+1) ((0+1:Nat):Int) (Ae 2 (Ha [6,8,10,15,18,59,60,66,67,68] [(0,0),(1,1),(2,2),(3,3),(4,4),(5,5),(32,20)] 21 0 hA0 [(3,1,1,(λ_=> .int (iR (cy 0/(gM nx ny nz cx cy cz o))))),(3,1,1,(λxi=> .int (Jq ny cy (gM nx ny nz cx cy cz o) xi)))] ⟨(Gl λ_ _=>rfl),(Gl λ_ _=>rfl),trivial⟩ (hJ8 _ _ (by omega:ny-(0+1)<ny-0) ⟨0+1,ω,rfl,trivial,.inr ⟨Nat.succ_pos _,rfl⟩⟩))))))))))))
        ·
         exact Ae 6 (zY 31 (Ae 12 (Bk (.osl 31 1 1) (.new 31 (.vec 3 1 1 (λ_=> .int 0))) (Aj 23 1 #[(0,(.const (.int .i64 0)))] κ underlying23 1 sizeOf3 _ zeroValue3 κ β β β 31 [.int 0] κ (λ_=> .int 0) κ) (Yw 31 [94] 3 1 1 (λ_=> .int 0) (Gl λ_ _=>rfl) (Ae 4 (Om [6,8,10,15,59,60] hJ5 (hs:=(by rw[show ny=0 by omega];kernel_rfl))))))))
       ·
        refine Ae 6 (Gi 69 ((k:Int)<(ny:Int)) (λhx5 hx5d=>?_) (λhx5 hx5d=>?_))
        ·
         exact Ae 7 (Fl k ny (Ae 9 (Cf (Hz (cy k) (gM nx ny nz cx cy cz o) ((hy _ ω).fit ω) (bG.fit ω) ω) (Cf (Mr (cy k/(gM nx ny nz cx cy cz o)) (((hy _ ω).div _).fit ω)) (Ae 13 (Bk (.osl 22 1 1) (.new 22 (.vec 3 1 1 (λ_=> .int (iR (cy k/(gM nx ny nz cx cy cz o)))))) (Aj 23 1 #[(0,(.tmp 83))] κ underlying23 1 sizeOf3 _ zeroValue3 κ β β β 22 [.int (iR (cy k/(gM nx ny nz cx cy cz o)))] κ (λ_=> .int (iR (cy k/(gM nx ny nz cx cy cz o)))) κ) (Bk (.osl 23 1 (k+1)) (.grow2 20 22 23 (.vec 3 1 (k+1) (λxi=> .int (Jq ny cy (gM nx ny nz cx cy cz o) xi)))) (Ce (.tmp 82) (.tmp 84) 23 κ underlying23 1 8 (.int .i64 0) κ κ δ k 1 ω (λxi=> .int (Jq ny cy (gM nx ny nz cx cy cz o) xi)) (λ_=> .int (iR (cy k/(gM nx ny nz cx cy cz o)))) (λxi=> .int (Jq ny cy (gM nx ny nz cx cy cz o) xi)) 23 ω (by unfold maxLen;omega) (λi hi=>rfl) (λi hi=>by(obtain rfl:i=0:=(ω));show AV.int (Jq _ _ _ _)=_;rw[Jq,if_pos ω]<;>rfl) (λi hi j hj=>by obtain rfl:j=0:=(ω);rfl) 20 κ κ 22 3 κ κ) (Ae 6 (Ep ((k:Int)+1) ((k+1:Nat):Int) (Ae 2 (Ha [6,8,10,15,18,59,60,66,67,68] [(0,0),(1,1),(2,2),(3,3),(4,4),(5,5),(23,20)] 21 0 hA0 [(3,1,1,(λ_=> .int (iR (cy k/(gM nx ny nz cx cy cz o))))),(3,1,k+1,(λxi=> .int (Jq ny cy (gM nx ny nz cx cy cz o) xi)))] ⟨(Gl λ_ _=>rfl),(Gl λ_ _=>rfl),trivial⟩ (hJ8 _ _ (by omega:ny-(k+1)<ny-k) ⟨k+1,ω,rfl,trivial,.inr ⟨Nat.succ_pos _,rfl⟩⟩))))))))))))
        ·
         refine Ae 6 (sQ 20 4 4 3 1 k (λxi=> .int (Jq ny cy (gM nx ny nz cx cy cz o) xi)) (Gl λ_ _=>rfl) ?_)
         have hke:k=max ny 1:=by omega
         subst hke
         exact zY 32 (Ae 7 (Gv 92 (decide (((max ny 1:Nat):Int)=0)) false (decide_eq_false ω) (Ae 5 (Om [6,8,10,15,59,60] hJ5))))
     ·
      refine Ae 4 (Bk (.ptr 4 3) .none (Dm 222 (.tmp 59) (.tmp 60) κ underlying222 1 sizeOf221 0 false isAgg221 [.ptr 4 3,.ptr 4 4,.ptr 4 5] 0 κ κ ω δ β δ (.ptr 4 3) κ) (Ae 8 (Bk (.ptr 0 0) .none (Bj 203 (.tmp 6) (.tmp 64) κ underlying203 0 0 1 0 0 κ κ sizeOf202 δ ω δ) (Ae 6 (dN [6,8,10,15,18,59,60,66,67,68] (λm s=>∃k,k<=nx/\m=nx-k/\True/\((k=0/\s=⟨[(6,.ptr 0 0),(8,.ptr 2 0),(10,.ptr 3 0),(15,.ptr 4 0),(18,.ptr 4 3),(59,.agg [.ptr 4 3,.ptr 4 4,.ptr 4 5]),(60,.int 0),(66,Bf nx cx),(67,.int (nx:Int)),(68,.int ((0:Nat):Int))],[(0,.box 203 [Bf nx cx,Bf ny cy,Bf nz cz]),(1,wB o),(2,sB),(3,wB (gM nx ny nz cx cy cz o)),(4,.box 81 [.int f,.int t,.int (iR (o/(gM nx ny nz cx cy cz o))),.lit (.slice none 0 0),.lit (.slice none 0 0),.lit (.slice none 0 0)]),(5,wB (o/(gM nx ny nz cx cy cz o)))],6,98⟩)\/(0<k/\s=⟨[(6,.ptr 0 0),(8,.ptr 2 0),(10,.ptr 3 0),(15,.ptr 4 0),(18,.ptr 4 3),(59,.agg [.ptr 4 3,.ptr 4 4,.ptr 4 5]),(60,.int 0),(66,Bf nx cx),(67,.int (nx:Int)),(68,.int (k:Int))],[(0,.box 203 [Bf nx cx,Bf ny cy,Bf nz cz]),(1,wB o),(2,sB),(3,wB (gM nx ny nz cx cy cz o)),(4,.box 81 [.int f,.int t,.int (iR (o/(gM nx ny nz cx cy cz o))),.osl 20 1 k,.lit (.slice none 0 0),.lit (.slice none 0 0)]),(5,wB (o/(gM nx ny nz cx cy cz o))),(20,.vec 3 1 k (λxi=> .int (Jq nx cx (gM nx ny nz cx cy cz o) xi)))],21,98⟩))) nx ⟨0,Nat.zero_le _,rfl,trivial,.inl ⟨rfl,κ⟩⟩ ?_)))))
      rintro _ _ ⟨k,hkn,rfl,hFk,(⟨hk0,rfl⟩|⟨hk0,rfl⟩)⟩ J9 hJ9
      ·
       subst hk0
       refine Ae 6 (Gi 69 (((0:Nat):Int)<(nx:Int)) (λhx6 hx6d=>?_) (λhx6 hx6d=>?_))
       ·
        exact Ae 7 (Fl 0 nx (Ae 9 (Cf (Hz (cx 0) (gM nx ny nz cx cy cz o) ((hx _ ω).fit ω) (bG.fit ω) ω) (Cf (Mr (cx 0/(gM nx ny nz cx cy cz o)) (((hx _ ω).div _).fit ω)) (Ae 13 (Bk (.osl 7 1 1) (.new 7 (.vec 3 1 1 (λ_=> .int (iR (cx 0/(gM nx ny nz cx cy cz o)))))) (Aj 23 1 #[(0,(.tmp 83))] κ underlying23 1 sizeOf3 _ zeroValue3 κ β β β 7 [.int (iR (cx 0/(gM nx ny nz cx cy cz o)))] κ (λ_=> .int (iR (cx 0/(gM nx ny nz cx cy cz o)))) κ) (Bk (.osl 8 1 1) (.newr 7 8 (.vec 3 1 1 (λxi=> .int (Jq nx cx (gM nx ny nz cx cy cz o) xi)))) (Ci (.tmp 82) (.tmp 84) 23 κ underlying23 1 8 (.int .i64 0) κ κ δ 1 ω (λ_=> .int (iR (cx 0/(gM nx ny nz cx cy cz o)))) (λxi=> .int (Jq nx cx (gM nx ny nz cx cy cz o) xi)) 8 (λi hi=>by(obtain rfl:i=0:=(ω));show AV.int (Jq _ _ _ _)=_;rw[Jq,if_pos ω]<;>rfl) (λi hi j hj=>by obtain rfl:j=0:=(ω);rfl) (by unfold maxLen;omega) ω κ 7 3 κ κ) (Ae 6 (Ep (((0:Nat):Int)+1) ((0+1:Nat):Int) (Ae 2 (Ha [6,8,10,15,18,59,60,66,67,68] [(0,0),(1,1),(2,2),(3,3),(4,4),(5,5),(8,20)] 21 0 hA0 [(3,1,1,(λ_=> .int (iR (cx 0/(gM nx ny nz cx cy cz o))))),(3,1,1,(λxi=> .int (Jq nx cx (gM nx ny nz cx cy cz o) xi)))] ⟨(Gl λ_ _=>rfl),(Gl λ_ _=>rfl),trivial⟩ (hJ9 _ _ (by omega:nx-(0+1)<nx-0) ⟨0+1,ω,rfl,trivial,.inr ⟨Nat.succ_pos _,rfl⟩⟩))))))))))))
       ·
        exact Ae 6 (zY 29 (Ae 12 (Bk (.osl 29 1 1) (.new 29 (.vec 3 1 1 (λ_=> .int 0))) (Aj 23 1 #[(0,(.const (.int .i64 0)))] κ underlying23 1 sizeOf3 _ zeroValue3 κ β β β 29 [.int 0] κ (λ_=> .int 0) κ) (Yw 29 [94] 3 1 1 (λ_=> .int 0) (Gl λ_ _=>rfl) (Ae 4 (Om [6,8,10,15,59,60] hJ4 (hs:=(by rw[show nx=0 by omega];kernel_rfl))))))))
      ·
       refine Ae 6 (Gi 69 ((k:Int)<(nx:Int)) (λhx7 hx7d=>?_) (λhx7 hx7d=>?_))
       ·
        exact Ae 7 (Fl k nx (Ae 9 (Cf (Hz (cx k) (gM nx ny nz cx cy cz o) ((hx _ ω).fit ω) (bG.fit ω) ω) (Cf (Mr (cx k/(gM nx ny nz cx cy cz o)) (((hx _ ω).div _).fit ω)) (Ae 13 (Bk (.osl 22 1 1) (.new 22 (.vec 3 1 1 (λ_=> .int (iR (cx k/(gM nx ny nz cx cy cz o)))))) (Aj 23 1 #[(0,(.tmp 83))] κ underlying23 1 sizeOf3 _ zeroValue3 κ β β β 22 [.int (iR (cx k/(gM nx ny nz cx cy cz o)))] κ (λ_=> .int (iR (cx k/(gM nx ny nz cx cy cz o)))) κ) (Bk (.osl 23 1 (k+1)) (.grow2 20 22 23 (.vec 3 1 (k+1) (λxi=> .int (Jq nx cx (gM nx ny nz cx cy cz o) xi)))) (Ce (.tmp 82) (.tmp 84) 23 κ underlying23 1 8 (.int .i64 0) κ κ δ k 1 ω (λxi=> .int (Jq nx cx (gM nx ny nz cx cy cz o) xi)) (λ_=> .int (iR (cx k/(gM nx ny nz cx cy cz o)))) (λxi=> .int (Jq nx cx (gM nx ny nz cx cy cz o) xi)) 23 ω (by unfold maxLen;omega) (λi hi=>rfl) (λi hi=>by(obtain rfl:i=0:=(ω));show AV.int (Jq _ _ _ _)=_;rw[Jq,if_pos ω]<;>rfl) (λi hi j hj=>by obtain rfl:j=0:=(ω);rfl) 20 κ κ 22 3 κ κ) (Ae 6 (Ep ((k:Int)+1) ((k+1:Nat):Int) (Ae 2 (Ha [6,8,10,15,18,59,60,66,67,68] [(0,0),(1,1),(2,2),(3,3),(4,4),(5,5),(23,20)] 21 0 hA0 [(3,1,1,(λ_=> .int (iR (cx k/(gM nx ny nz cx cy cz o))))),(3,1,k+1,(λxi=> .int (Jq nx cx (gM nx ny nz cx cy cz o) xi)))] ⟨(Gl λ_ _=>rfl),(Gl λ_ _=>rfl),trivial⟩ (hJ9 _ _ (by omega:nx-(k+1)<nx-k) ⟨k+1,ω,rfl,trivial,.inr ⟨Nat.succ_pos _,rfl⟩⟩))))))))))))
       ·
        refine Ae 6 (sQ 20 4 3 3 1 k (λxi=> .int (Jq nx cx (gM nx ny nz cx cy cz o) xi)) (Gl λ_ _=>rfl) ?_)
        have hke:k=max nx 1:=by omega
        subst hke
        exact zY 30 (Ae 7 (Gv 92 (decide (((max nx 1:Nat):Int)=0)) false (decide_eq_false ω) (Ae 5 (Om [6,8,10,15,59,60] hJ4))))
def Ys (n:Nat) (c:Nat->Int) (g:Int):List Int:=(List.range (max n 1)).map (Jq n c g)
theorem tT (n:Nat) (c:Nat->Int) (g:Int) (i:Nat):(Ys n c g).getD i 0=Jq n c g i:=by
 unfold Ys
 rw[List.getD_eq_getElem?_getD,List.getElem?_map]
 by_cases h:i<max n 1
 rw[List.getElem?_range h];rfl
 rw[List.getElem?_eq_none (by simp;omega)]
 show (0:Int)=_
 unfold Jq
 rw[if_neg ω]
theorem aQ (n:Nat) (c:Nat->Int) (g:Int):(Ys n c g).length=max n 1:=by simp[Ys]
def uR (f t:Int) (nx ny nz:Nat) (cx cy cz:Nat->Int) (o:Int):Sg:=⟨f,t,iR (o/gM nx ny nz cx cy cz o),Ys nx cx (gM nx ny nz cx cy cz o),Ys ny cy (gM nx ny nz cx cy cz o),Ys nz cz (gM nx ny nz cx cy cz o)⟩
def uQ (nx ny nz:Nat) (cx cy cz:Nat->Int) (o:Int):Bool:=decide ((0:Int)<(o/gM nx ny nz cx cy cz o-4294967296).sign)
theorem Ab3 {f t:Int} {nx ny nz:Nat} {cx cy cz:Nat->Int} {o:Int} (h:uQ nx ny nz cx cy cz o=false):Yg f t nx ny nz cx cy cz o= .tup [Cv (uR f t nx ny nz cx cy cz o),.bool true]:=by
 unfold Yg uR
 rw[if_neg (of_decide_eq_false h)]
 have key:∀n c,(AV.sl 1 (max n 1) λxi=> .int (Jq n c (gM nx ny nz cx cy cz o) xi))=Br (Ys n c (gM nx ny nz cx cy cz o)):=λn c=>by
  show _=AV.sl 1 (Ys n c (gM nx ny nz cx cy cz o)).length λxi=> .int ((Ys n c (gM nx ny nz cx cy cz o)).getD xi 0)
  rw[aQ,show (λxi=>AV.int ((Ys n c (gM nx ny nz cx cy cz o)).getD xi 0))=λxi=> .int (Jq n c (gM nx ny nz cx cy cz o) xi) from funext λxi=>by rw[tT]]
 rw[key,key,key]
theorem Ab2 {f t:Int} {nx ny nz:Nat} {cx cy cz:Nat->Int} {o:Int} (h:uQ nx ny nz cx cy cz o=true):Yg f t nx ny nz cx cy cz o= .lit (.tuple #[.agg #[.int .i64 f,.int .i64 t,.int .i64 0,.slice none 0 0,.slice none 0 0,.slice none 0 0],.bool false]):=by
 unfold Yg
 rw[if_pos (of_decide_eq_true h)]
abbrev pD (s:Sg):Int:=s.t-s.f
def Ht (s:Sg) (a b:Int):Sg:=uR a b (on s.x (a-s.f) (b-a) (pD s)) (on s.y (a-s.f) (b-a) (pD s)) (on s.z (a-s.f) (b-a) (pD s)) (oc s.x (a-s.f) (b-a) (pD s)) (oc s.y (a-s.f) (b-a) (pD s)) (oc s.z (a-s.f) (b-a) (pD s)) (s.o*pD s^5)
def Wf (s:Sg) (a b:Int):Bool:=uQ (on s.x (a-s.f) (b-a) (pD s)) (on s.y (a-s.f) (b-a) (pD s)) (on s.z (a-s.f) (b-a) (pD s)) (oc s.x (a-s.f) (b-a) (pD s)) (oc s.y (a-s.f) (b-a) (pD s)) (oc s.z (a-s.f) (b-a) (pD s)) (s.o*pD s^5)
theorem Bv {x:Int} (h: -3600000<=x/\x<=3600000):Cm x:=⟨ω,ω⟩
theorem tC (s:Sg) (a b:Int) (hs:Td s) (ho:Hc s) (ha:s.f<=a/\a<=s.t) (hb:a<=b/\b<=s.t):AF Tryz.prog 140 [.int a,.int b,.agg [Uj s.x (a-s.f) (b-a) (pD s),Uj s.y (a-s.f) (b-a) (pD s),Uj s.z (a-s.f) (b-a) (pD s)],WA (s.o*pD s^5)] (Yg a b (on s.x (a-s.f) (b-a) (pD s)) (on s.y (a-s.f) (b-a) (pD s)) (on s.z (a-s.f) (b-a) (pD s)) (oc s.x (a-s.f) (b-a) (pD s)) (oc s.y (a-s.f) (b-a) (pD s)) (oc s.z (a-s.f) (b-a) (pD s)) (s.o*pD s^5)):=by
 have hh:=ho.1
 unfold Jd at hh
 have h1:Cm (a-s.f):=Bv ω
 have h2:Cm (b-a):=Bv ω
 have h3:Cm (pD s):=Bv (by show -3600000<=s.t-s.f/\s.t-s.f<=3600000;omega)
 have hx:=ho.2.1.2.1
 have hy:=ho.2.2.1.2.1
 have hz:=ho.2.2.2.1.2.1
 refine AcB a b _ _ _ _ _ _ _ (AbC _ _ _ _ hx) (AbC _ _ _ _ hy) (AbC _ _ _ _ hz) (λi _=>fO hs.x hx h1 h2 h3 i) (λi _=>fO hs.y hy h1 h2 h3 i) (λi _=>fO hs.z hz h1 h2 h3 i) ((Uk hs h3).mono ω) ?_
 exact Int.mul_pos ω (Int.pow_pos (by show 0<s.t-s.f;omega))
theorem Zz (s:Sg) (a b:Int) (hs:Td s) (ho:Hc s) (ha:s.f<=a/\a<=s.t) (hb:a<=b/\b<=s.t) (h:Wf s a b=false):AF Tryz.prog 140 [.int a,.int b,.agg [Uj s.x (a-s.f) (b-a) (pD s),Uj s.y (a-s.f) (b-a) (pD s),Uj s.z (a-s.f) (b-a) (pD s)],WA (s.o*pD s^5)] (.tup [Cv (Ht s a b),.bool true]):=by
 have:=tC s a b hs ho ha hb
 rwa [Ab3 h] at this
theorem Zy (s:Sg) (a b:Int) (hs:Td s) (ho:Hc s) (ha:s.f<=a/\a<=s.t) (hb:a<=b/\b<=s.t) (h:Wf s a b=true):AF Tryz.prog 140 [.int a,.int b,.agg [Uj s.x (a-s.f) (b-a) (pD s),Uj s.y (a-s.f) (b-a) (pD s),Uj s.z (a-s.f) (b-a) (pD s)],WA (s.o*pD s^5)] (.lit (.tuple #[.agg #[.int .i64 a,.int .i64 b,.int .i64 0,.slice none 0 0,.slice none 0 0,.slice none 0 0],.bool false])):=by
 have:=tC s a b hs ho ha hb
 rwa [Ab2 h] at this
theorem Ma (s:Sg) (a b d:Int) (hs:Td s) (ho:Hc s) (ha:Cm a) (hb:Cm b) (hd:Cm d) (hdp:0<d):AF Tryz.prog 141 [Cv s,.int a,.int b,.int d] (.agg [Uj s.x a b d,Uj s.y a b d,Uj s.z a b d]):=
 lD s a b d hs ho.2.1.1 ho.2.1.2.1 ho.2.2.1.1 ho.2.2.1.2.1 ho.2.2.2.1.1 ho.2.2.2.1.2.1 ha hb hd hdp
abbrev pA (l:List Sg) (f:Int) (i:Nat):Int:=max f (l.getD i Sg.none).f
abbrev pB (l:List Sg) (t:Int) (i:Nat):Int:=min t (l.getD i Sg.none).t
def Jk (l:List Sg) (f t:Int):Nat->List Sg
 |0=>[]
 |i+1=>if pA l f i<pB l t i then Jk l f t i++[Ht (l.getD i Sg.none) (pA l f i) (pB l t i)] else Jk l f t i
def Xy (l:List Sg) (f t:Int) (i:Nat):Prop:=∀j,j<i->pA l f j<pB l t j->Wf (l.getD j Sg.none) (pA l f j) (pB l t j)=false
theorem Ou {l:List Sg} {f t:Int} {i:Nat} (h:¬pA l f i<pB l t i):Jk l f t (i+1)=Jk l f t i:=by rw[Jk,if_neg h]
theorem Ms {l:List Sg} {f t:Int} {i:Nat} (h:pA l f i<pB l t i):Jk l f t (i+1)=Jk l f t i++[Ht (l.getD i Sg.none) (pA l f i) (pB l t i)]:=by rw[Jk,if_pos h]
theorem aR {l:List Sg} {f t:Int} {i:Nat} (h:¬pA l f i<pB l t i) (hk:Xy l f t i):Xy l f t (i+1):=λj hj h2=>by
 by_cases e:j=i
 subst e;exact absurd h2 h
 exact hk j ω h2
theorem eR {l:List Sg} {f t:Int} {i:Nat} (h:Wf (l.getD i Sg.none) (pA l f i) (pB l t i)=false) (hk:Xy l f t i):Xy l f t (i+1):=λj hj h2=>by
 by_cases e:j=i
 subst e;exact h
 exact hk j ω h2
open Classical in
noncomputable def mJ (l:List Sg) (f t:Int):List Sg×Int:=if Xy l f t l.length then (Jk l f t l.length,0) else ([],7)
theorem tV {l:List Sg} {f t:Int} (h:Xy l f t l.length):mJ l f t=(Jk l f t l.length,0):=if_pos h
theorem tU {l:List Sg} {f t:Int} {j:Nat} (hj:j<l.length) (h1:pA l f j<pB l t j) (h2:Wf (l.getD j Sg.none) (pA l f j) (pB l t j)=true):mJ l f t=([],7):=if_neg λh=>by
 have:=h j hj h1
 rw[h2] at this;cases this
theorem bK {p:Pr} {k:Nat} {t:Int} {m:List Int}:∀{i:Nat} {l:List Int},i<=m.length->Ed p k t m i=some l->∀j,l.getD j 0=m.getD j 0+if j<i then ((He p k t j).length:Int) else 0
 |0,l,_,h,j=>by cases h;rw[if_neg (Nat.not_lt_zero j),Int.add_zero]
 |i+1,l,hi,h,j=>by
  rw[Ed] at h
  cases h1:Ed p k t m i with
  |none=>rw[h1] at h;cases h
  |some l1=>
   rw[h1] at h
   simp only at h
   have ih:=bK ω h1
   have hlen:l1.length=m.length:=by
    clear ih h
    have key:∀{i:Nat} {l1:List Int},Ed p k t m i=some l1->l1.length=m.length:=by
     intro i
     induction i with
     |zero=>intro l1 h;cases h;rfl
     |succ i ih=>
      intro l1 h
      rw[Ed] at h
      cases h2:Ed p k t m i with
      |none=>rw[h2] at h;cases h
      |some l2=>
       rw[h2] at h
       simp only at h
       split at h
       cases h;rw[List.length_set];exact ih h2
       cases h
    exact key h1
   split at h
   cases h
   by_cases e:i=j
   subst e
   rw[if_pos (Nat.lt_succ_self i)]
   have h2:=ih i
   rw[if_neg (Nat.lt_irrefl i),Int.add_zero] at h2
   rw[<-h2]
   simp[List.getD_eq_getElem?_getD,show i<l1.length by omega]
   have h2:=ih j
   have h4:(if j<i then ((He p k t j).length:Int) else 0)=if j<i+1 then ((He p k t j).length:Int) else 0:=by
    by_cases hj:j<i
    rw[if_pos hj,if_pos ω]
    rw[if_neg hj,if_neg ω]
   rw[<-h4,<-h2]
   simp[List.getD_eq_getElem?_getD,List.getElem?_set_ne e]
   cases h
theorem pE {p:Pr}:∀{k:Nat} {t:Int} {m:List Int},Ks p k=some (t,m)->∀i,i<p.names.length->m.getD i 0=((Iw p k i).length:Int)/\((Iw p k i).length:Int)<=256
 |0,t,m,h,i,hi=>by
  simp only[Ks,Option.some.injEq,Prod.mk.injEq] at h
  obtain⟨_,rfl⟩:=h
  simp[List.getD_eq_getElem?_getD,hi,Iw]
 |k+1,t,m,h,i,hi=>by
  have hfin:=Nd h
  have hm:i<m.length:=by rw[hfin.2.2.1];exact hi
  have hb:m.getD i 0<=256:=by
   have:m.getD i 0=m[i]:=by simp[List.getD_eq_getElem?_getD,hm]
   rw[this];exact(hfin.2.2.2.1 _ (List.getElem_mem hm)).2
  rw[Ks] at h
  cases h1:Ks p k with
  |none=>rw[h1] at h;cases h
  |some tm=>
   obtain⟨t1,m1⟩:=tm
   rw[h1] at h
   simp only at h
   have ih:=pE h1 i hi
   have h1f:=Nd h1
   have ht:=(dF h1).1
   split at h
   cases h2:Ed p k t1 m1 p.names.length with
   |none=>rw[h2] at h;cases h
   |some m2=>
    rw[h2] at h
    simp only[Option.some.injEq,Prod.mk.injEq] at h
    obtain⟨_,rfl⟩:=h
    have h3:=bK (by rw[h1f.2.2.1];exact Nat.le_refl _) h2 i
    rw[if_pos hi,ih.1,ht] at h3
    have h4:m2.getD i 0=((Iw p (k+1) i).length:Int):=by rw[h3,Iw,List.length_append];omega
    exact⟨h4,ω⟩
   cases h
theorem Ad4 {p:Pr} (h:Eu p=true) {i:Nat} (hi:i<p.names.length):(Iw p p.acts.length i).length<=256:=by
 unfold Eu at h
 simp only[Bool.and_eq_true] at h
 obtain⟨tm,ht⟩:=Option.isSome_iff_exists.1 h.2
 obtain⟨t,m⟩:=tm
 have:=(pE ht i hi).2
 omega
theorem Rd {p:Pr} (ho:Vb p):∀k,k<=p.acts.length->0<k->0<Av p.acts k
 |0,_,h=>absurd h (Nat.lt_irrefl 0)
 |k+1,hk,_=>by
  have h1:=(ho.ends k ω).1
  have h2:=ho.len k ω
  rw[Av];omega
structure Afy (p:Pr) (i:Nat) (l:List Sg):Prop where
 ok:Eh l
 pin:Da l
 first:(l.getD 0 Sg.none).f=0
 last:(l.getD (l.length-1) Sg.none).t=Av p.acts p.acts.length
 one:∀i,i<l.length->(l.getD i Sg.none).o=1
theorem rS {p:Pr} (h:Eu p=true) (h0:0<p.acts.length) {i:Nat} (hi:i<p.names.length):Afy p i (Iw p p.acts.length i):=by
 have ho:=Du h
 have hc:=Xo ho hi p.acts.length (Nat.le_refl _)
 have hp:=hc.pos (Rd ho _ (Nat.le_refl _) h0)
 have hf:=Ad4 h hi
 refine⟨⟨λj hj=>⟨(hc.seg j hj).1,(hc.seg j hj).2.2.2⟩,hp,hf⟩,⟨ω,λj=>?_⟩,hc.first hp,hc.last hp,λj hj=>(hc.seg j hj).2.2.1⟩
 by_cases hj:j<(Iw p p.acts.length i).length
 exact(hc.seg j hj).2.1
 have e:(Iw p p.acts.length i).getD j Sg.none=Sg.none:=by rw[List.getD_eq_getElem?_getD,List.getElem?_eq_none ω];rfl
 rw[e];exact Da.nil.2 0
theorem mH (p:Nat->Int) (m:Nat) (d:Int):∀j k,k<=j->j<m->cN p m 0 d d j k=p (m-1-j+k)*d^j
 |0,k,hk,hj=>by
  obtain rfl:k=0:=by omega
  rw[cN,Int.pow_zero,Int.mul_one];rfl
 |j+1,k,hk,hj=>by
  rw[cN]
  by_cases h0:k=0
  subst h0
  rw[if_pos rfl,Zp]
  unfold inn
  rw[if_pos (Nat.succ_pos j),if_pos rfl,Int.mul_zero,Int.zero_add,Int.zero_add,show m-2-j=m-1-(j+1)+0 by omega]
  rw[if_neg h0,Int.add_zero]
  have ih:=mH p m d j (k-1) ω ω
  unfold inn
  by_cases h1:k<j+1
  rw[if_pos h1,if_neg h0,Int.mul_zero,Int.add_zero,ih,Int.pow_succ,Int.mul_assoc,show m-1-j+(k-1)=m-1-(j+1)+k by omega]
  obtain rfl:k=j+1:=by omega
  rw[Nat.add_sub_cancel] at ih
  rw[if_neg h1,if_pos ⟨rfl,Nat.succ_pos j⟩,Nat.add_sub_cancel,ih,Int.pow_succ,Int.mul_assoc,show m-1-j+j=m-1-(j+1)+(j+1) by omega]
theorem zZ {l:List Int} {d:Int} (hd:0<d) (h1:1<=l.length) (h6:l.length<=6) (hl:1<l.length->l.getD (l.length-1) 0≠0):
  (on l 0 d d=l.length/\∀i,i<l.length->oc l 0 d d i=l.getD i 0*d^5)\/(l=[0]/\on l 0 d d=0):=by
 by_cases hz:l.getD (l.length-1) 0=0
 right
 have e1:l.length=1:=by
  by_cases h:1<l.length
  exact absurd hz (hl h)
  omega
 obtain⟨a,rfl⟩:=List.length_eq_one_iff.1 e1
 have ha:a=0:=hz
 subst ha
 refine⟨rfl,?_⟩
 have e2:dM [0]=0:=by decide
 show Fw (oc [0] 0 d d) (Fw (nY [0] 0 d d) (dM [0]))=0
 rw[e2];rfl
 left
 have e2:dM l=l.length:=Ta (.inr hz)
 have e3:∀i,i<l.length->nY l 0 d d i=l.getD i 0*d^(l.length-1):=λi hi=>by
  show cN (Zd l) (dM l) 0 d d (dM l-1) i=_
  rw[e2,mH _ _ _ _ _ ω ω,show l.length-1-(l.length-1)+i=i by omega]
 have hdp:∀k,d^k≠0:=λk=>Int.ne_of_gt (Int.pow_pos hd)
 have e4:∀i,i<l.length->oc l 0 d d i=l.getD i 0*d^5:=λi hi=>by
  show nY l 0 d d i*d^(6-l.length)=_
  rw[e3 i hi,Int.mul_assoc,<-Int.pow_add,show l.length-1+(6-l.length)=5 by omega]
 refine⟨?_,e4⟩
 have e5:Fw (nY l 0 d d) (dM l)=l.length:=by
  rw[e2]
  refine Ta (.inr ?_)
  rw[e3 _ ω]
  exact Int.mul_ne_zero hz (hdp _)
 show Fw (oc l 0 d d) (Fw (nY l 0 d d) (dM l))=l.length
 rw[e5]
 refine Ta (.inr ?_)
 rw[e4 _ ω]
 exact Int.mul_ne_zero hz (hdp _)
theorem Vl {c:Nat->Int} {g:Int} (hg:0<g):∀k,(∀i,i<k->∃q,c i=q*g)->gF c g k=g
 |0,_=>rfl
 |k+1,h=>by
  rw[gF,Vl hg k λi hi=>h i ω]
  obtain⟨q,hq⟩:=h k (Nat.lt_succ_self k)
  rw[hq,Int.natAbs_mul,Nat.gcd_eq_left (Nat.dvd_mul_left _ _)]
  omega
theorem Us {l:List Int} {d:Int} (hd:0<d) (h1:1<=l.length) (h6:l.length<=6) (hl:1<l.length->l.getD (l.length-1) 0≠0) (hin:∀i,Cm (l.getD i 0)):
  Ys (on l 0 d d) (oc l 0 d d) (d^5)=l/\∀i,i<on l 0 d d->∃q,oc l 0 d d i=q*d^5:=by
 have hd5:d^5≠0:=Int.ne_of_gt (Int.pow_pos hd)
 rcases zZ hd h1 h6 hl with⟨e1,e2⟩|⟨e1,e2⟩
 refine⟨xP (by rw[aQ,e1];omega) λq hq=>?_,λi hi=>⟨_,e2 i ω⟩⟩
 rw[aQ,e1] at hq
 rw[tT,Jq,e1,if_pos ω,e2 q ω,Int.mul_ediv_cancel _ hd5,Af5 (hin q)]
 refine⟨?_,λi hi=>by omega⟩
 rw[e2,e1]
 rfl
theorem cA {s:Sg} (hs:Td s) (ho:Hc s) (h1:s.o=1):Ht s s.f s.t=s/\Wf s s.f s.t=false:=by
 have hh:=ho.1
 unfold Jd at hh
 have hd:0<pD s:=by show 0<s.t-s.f;omega
 have hd5:0<pD s^5:=Int.pow_pos hd
 obtain⟨x1,x2⟩:=Us hd ho.2.1.1 ho.2.1.2.1 ho.2.1.2.2.1 hs.x
 obtain⟨y1,y2⟩:=Us hd ho.2.2.1.1 ho.2.2.1.2.1 ho.2.2.1.2.2.1 hs.y
 obtain⟨z1,z2⟩:=Us hd ho.2.2.2.1.1 ho.2.2.2.1.2.1 ho.2.2.2.1.2.2.1 hs.z
 have e0:s.f-s.f=0:=by omega
 have e1:s.t-s.f=pD s:=rfl
 have g:gM (on s.x 0 (pD s) (pD s)) (on s.y 0 (pD s) (pD s)) (on s.z 0 (pD s) (pD s)) (oc s.x 0 (pD s) (pD s)) (oc s.y 0 (pD s) (pD s)) (oc s.z 0 (pD s) (pD s)) (1*pD s^5)=pD s^5:=by
  unfold gM
  rw[Int.one_mul,Vl hd5 _ x2,Vl hd5 _ y2,Vl hd5 _ z2]
 have q1:(1*pD s^5)/pD s^5=1:=by rw[Int.one_mul];exact Int.ediv_self (Int.ne_of_gt hd5)
 constructor
 unfold Ht uR
 rw[e0,e1,h1,g,q1,x1,y1,z1]
 exact AeX rfl rfl h1.symm rfl rfl rfl
 unfold Wf uQ
 rw[e0,e1,h1,g,q1]
 decide
theorem mK {l:List Sg} {f t:Int}:∀n,Jk l f t n=[]->∀i,i<n->¬pA l f i<pB l t i
 |0,_,i,hi=>absurd hi (Nat.not_lt_zero i)
 |n+1,h,i,hi=>by
  by_cases hlt:pA l f n<pB l t n
  rw[Ms hlt] at h;simp at h
  rw[Ou hlt] at h
  by_cases e:i=n
  subst e;exact hlt
  exact mK n h i ω
theorem AcX {l:List Sg} {f t:Int} (hok:Eh l) (hf:(l.getD 0 Sg.none).f<=f) (hft:f<t) (ht:t<=(l.getD (l.length-1) Sg.none).t):0<(Jk l f t l.length).length:=by
 rcases Nat.eq_zero_or_pos (Jk l f t l.length).length with h|h
 exfalso
 have hn:=mK _ (List.eq_nil_of_length_eq_zero h)
 have key:∀i,i<l.length->(l.getD i Sg.none).t<=f:=by
  intro i
  induction i with
  |zero=>
   intro hi
   have:=hn 0 hi
   have:¬max f (l.getD 0 Sg.none).f<min t (l.getD 0 Sg.none).t:=this
   omega
  |succ i ih=>
   intro hi
   have h1:=ih ω
   have h2:=((hok.1 (i+1) hi).2 (Nat.succ_pos i)).1
   rw[Nat.add_sub_cancel] at h2
   have:¬max f (l.getD (i+1) Sg.none).f<min t (l.getD (i+1) Sg.none).t:=hn (i+1) hi
   omega
 have:=key (l.length-1) (by have:=hok.2.1;omega)
 omega
 exact h
def rR (p:Pr) (i k:Nat):Nat->List Sg
 |0=>[]
 |m+1=>rR p i k m++He p (k+m) (Av p.acts (k+m)) i
theorem oF (p:Pr) (i k:Nat):∀m,Iw p (k+m) i=Iw p k i++rR p i k m
 |0=>(List.append_nil _).symm
 |m+1=>by
  show Iw p (k+m) i++_=_
  rw[oF p i k m,List.append_assoc];rfl
theorem uD (p:Pr) (k i:Nat):(Ea p (k+1)).getD i V3.zero=((p.acts.getD k Ac.none).moves.getD i Mv.none).to:=by
 unfold Ea
 rw[if_neg (Nat.succ_ne_zero k),Nat.add_sub_cancel]
 show ((p.acts.getD k Ac.none).moves.map (·.to)).getD i V3.zero=_
 generalize (p.acts.getD k Ac.none).moves=ms
 rw[List.getD_eq_getElem?_getD,List.getElem?_map,List.getD_eq_getElem?_getD]
 cases ms[i]?<;>rfl
theorem bV {p:Pr} (ho:Vb p) {i:Nat} (hi:i<p.names.length) (k:Nat):∀m,k+m<=p.acts.length->Be (rR p i k m) ((Ea p k).getD i V3.zero) ((Ea p (k+m)).getD i V3.zero) (Av p.acts k) (Av p.acts (k+m))
 |0,_=>⟨rfl,rfl⟩
 |m+1,hk=>by
  refine Be.app (bV ho hi k m ω) ?_
  have h2:=Yj (ho.pe (k+m) i ω hi)
  rw[show k+(m+1)=k+m+1 from rfl,uD]
  exact h2
theorem oG (p:Pr) (i k:Nat):∀m,(rR p i k m).length<=5*m
 |0=>Nat.zero_le _
 |m+1=>by
  have h1:=oG p i k m
  have h2:=Sw p (k+m) (Av p.acts (k+m)) i
  rw[rR,List.length_append];omega
def AbT (p:Pr) (i k:Nat):List Sg:=rR p i k (p.acts.length-k)
theorem yX {p:Pr} {k:Nat} (i:Nat) (hk:k<=p.acts.length):Iw p p.acts.length i=Iw p k i++AbT p i k:=by
 have:=oF p i k (p.acts.length-k)
 rwa [show k+(p.acts.length-k)=p.acts.length by omega] at this
theorem oO {p:Pr} (ho:Vb p) {i:Nat} (hi:i<p.names.length) {k:Nat} (hk:k<=p.acts.length):Be (AbT p i k) ((Ea p k).getD i V3.zero) ((Ea p p.acts.length).getD i V3.zero) (Av p.acts k) (Av p.acts p.acts.length):=by
 have:=bV ho hi k (p.acts.length-k) ω
 rwa [show k+(p.acts.length-k)=p.acts.length by omega] at this
theorem Be.okP {l:List Sg} {a b:V3} {f t:Int} (h:Be l a b f t) (hp:0<l.length) (hn:l.length<=256):Eh l/\Da l:=
 ⟨⟨λj hj=>⟨(h.seg j hj).1,(h.seg j hj).2.2.2⟩,hp,hn⟩,ω,λj=>by
  by_cases hj:j<l.length
  exact(h.seg j hj).2.1
  have e:l.getD j Sg.none=Sg.none:=by rw[List.getD_eq_getElem?_getD,List.getElem?_eq_none ω];rfl
  rw[e];exact Da.nil.2 0⟩
theorem Be.le:∀{l:List Sg} {a b:V3} {f t:Int},Be l a b f t->f<=t
 |[],_,_,_,_,⟨_,e⟩=>by omega
 |_::_,_,_,_,_,⟨_,_,h,hr⟩=>by have:=h.ft;have:=Be.le hr;omega
theorem Be.nil_of {l:List Sg} {a b:V3} {f:Int} (h:Be l a b f f):l=[]:=by
 match l,h with
 |[],_=>rfl
 |_::_,⟨_,_,h,hr⟩=>have:=h.ft;have:=Be.le hr;omega
theorem Jz {l r:List Sg} {a b c:V3} {f t u:Int} (h1:Be l a b f t) (h2:Be r b c t u) (p1:0<l.length) (p2:0<r.length) (hn:l.length+r.length<=256):Oh l r=(l++r,0):=by
 have h:=(h1.app h2).seg l.length (by rw[List.length_append];omega)
 have hm:=h.2.2.2 p1
 rw[Lh,Lh,if_pos ω,if_neg (Nat.lt_irrefl _),Nat.sub_self] at hm
 exact AaD (Dz (h1.okP p1 ω).1) (Dz (h2.okP p2 ω).1) (Dz hm) ω
theorem Be.times:∀{l:List Sg} {a b:V3} {f t:Int},Be l a b f t->∀i,i<l.length->f<=(l.getD i Sg.none).f/\(l.getD i Sg.none).t<=t
 |s::r,_,_,f,t,⟨c,u,h,hr⟩,0,_=>by
  have:=hr.le
  exact⟨by show f<=s.f;rw[h.rows.2.2.2.1];omega,by show s.t<=t;rw[h.rows.2.2.2.2.1];omega⟩
 |s::r,_,_,f,t,⟨c,u,h,hr⟩,i+1,hi=>by
  have h1:=Be.times hr i (by simpa using hi)
  have:=h.ft
  exact⟨by show f<=(r.getD i Sg.none).f;omega,h1.2⟩
theorem AaT {l r:List Sg} {a b c:V3} {f t u:Int} (h1:Be l a b f t) (h2:Be r b c t u):mJ (l++r) t u=(r,0):=by
 have hl:∀i,i<l.length->¬pA (l++r) t i<pB (l++r) u i:=λi hi=>by
  have:=h1.times i hi
  show ¬max t ((l++r).getD i Sg.none).f<min u ((l++r).getD i Sg.none).t
  rw[Lh,if_pos hi];omega
 have hr:∀i,i<r.length->(l++r).getD (l.length+i) Sg.none=r.getD i Sg.none/\pA (l++r) t (l.length+i)=(r.getD i Sg.none).f/\pB (l++r) u (l.length+i)=(r.getD i Sg.none).t/\(r.getD i Sg.none).f<(r.getD i Sg.none).t:=λi hi=>by
  have h3:=h2.times i hi
  have e:(l++r).getD (l.length+i) Sg.none=r.getD i Sg.none:=by rw[Lh,if_neg ω,Nat.add_sub_cancel_left]
  have h4:=((h2.seg i hi).1).1
  unfold Jd at h4
  refine⟨e,?_,?_,ω⟩
  show max t ((l++r).getD (l.length+i) Sg.none).f=_
  rw[e];omega
  show min u ((l++r).getD (l.length+i) Sg.none).t=_
  rw[e];omega
 have e1:∀n,n<=l.length->Jk (l++r) t u n=[]:=by
  intro n
  induction n with
  |zero=>intro _;rfl
  |succ n ih=>intro hn;rw[Ou (hl n ω),ih ω]
 have e2:∀n,n<=r.length->Jk (l++r) t u (l.length+n)=r.take n:=by
  intro n
  induction n with
  |zero=>intro _;rw[Nat.add_zero,e1 _ (Nat.le_refl _),List.take_zero]
  |succ n ih=>
   intro hn
   obtain⟨g1,g2,g3,g4⟩:=hr n ω
   have h3:=h2.seg n ω
   rw[show l.length+(n+1)=l.length+n+1 from rfl,Ms (by rw[g2,g3];exact g4),g1,g2,g3,(cA h3.2.1 h3.1 h3.2.2.1).1,ih ω,List.take_succ_eq_append_getElem ω]
   congr 2
   simp[List.getD_eq_getElem?_getD,show n<r.length by omega]
 have hk:Xy (l++r) t u (l++r).length:=λj hj hlt=>by
  by_cases h:j<l.length
  exact absurd hlt (hl j h)
  have hj2:j<l.length+r.length:=by rw[<-List.length_append];exact hj
  obtain⟨m,rfl⟩:∃m,j=l.length+m:=⟨j-l.length,ω⟩
  obtain⟨g1,g2,g3,g4⟩:=hr m ω
  have h3:=h2.seg m ω
  rw[g1,g2,g3]
  exact(cA h3.2.1 h3.1 h3.2.2.1).2
 rw[tV hk,List.length_append,e2 _ (Nat.le_refl _),List.take_length]
end Go.Proofs.YtldnjomacnjhnaaGreat
namespace Go.Proofs.YtldnjomacnjhnaaGreat
open Go.RowKit
abbrev Bs (r:Rv) (x:Rl):V3:=r.homes.getD x.spare.toNat V3.zero
abbrev Ll (p:Pr) (r:Rv) (c:Cs) (x:Rl):Nat:=Nj p c (Lf p r c x.wait)
abbrev atR (p:Pr) (r:Rv) (c:Cs) (x:Rl):V3:=oY p c (Ll p r c x)
structure tI (p:Pr) (r:Rv) (c:Cs) (x:Rl):Prop where
 sp:0<=x.spare/\x.spare<r.homes.length
 wait:∃k,k<r.waits.length/\x.wait=r.waits.getD k 0
 act:Ll p r c x<p.acts.length
 rise:∃u,u<r.rises.length/\x.rise=r.rises.getD u 0
 l1:Km (Bs r x) x.rise=true
 l2:Km (atR p r c x) x.rise=true
theorem cI {r:Rv} {w:Int} {v:V3} {i:Nat} {x:Rl}:∀q,x∈dY r w v i q↔∃u,u<q/\x=⟨(i:Int),w,r.rises.getD u 0⟩/\Km (r.homes.getD i V3.zero) (r.rises.getD u 0)=true/\Km v (r.rises.getD u 0)=true
 |0=>⟨λh=>(by cases h),λ⟨u,h,_⟩=>absurd h (Nat.not_lt_zero u)⟩
 |q+1=>by
  rw[dY,List.mem_append,cI q]
  constructor
  rintro(⟨u,h1,h2⟩|h)
  exact⟨u,ω,h2⟩
  split at h
  rename_i hl
  rw[Bool.and_eq_true] at hl
  exact⟨q,Nat.lt_succ_self q,List.mem_singleton.1 h,hl.1,hl.2⟩
  cases h
  rintro⟨u,h1,h2,h3,h4⟩
  by_cases e:u=q
  subst e
  rw[h3,h4]
  exact .inr (List.mem_singleton.2 h2)
  exact .inl ⟨u,ω,h2,h3,h4⟩
theorem cH {r:Rv} {w:Int} {v:V3} {o:List Nat} {x:Rl}:∀n,x∈kF r w v o n↔∃m,m<n/\x∈dY r w v (o.getD m 0) r.rises.length
 |0=>⟨λh=>(by cases h),λ⟨u,h,_⟩=>absurd h (Nat.not_lt_zero u)⟩
 |n+1=>by
  rw[kF,List.mem_append,cH n]
  constructor
  rintro(⟨u,h1,h2⟩|h)
  exact⟨u,ω,h2⟩
  exact⟨n,Nat.lt_succ_self n,h⟩
  rintro⟨u,h1,h2⟩
  by_cases e:u=n
  subst e;exact .inr h2
  exact .inl ⟨u,ω,h2⟩
theorem cJ {p:Pr} {r:Rv} {c:Cs} {x:Rl}:∀n,x∈Jr p r c n↔∃k,k<n/\dX p r c k=true/\x∈kF r (r.waits.getD k 0) (Bn p r c k) (Ec r (Bn p r c k)) r.homes.length
 |0=>⟨λh=>(by cases h),λ⟨u,h,_⟩=>absurd h (Nat.not_lt_zero u)⟩
 |n+1=>by
  rw[Jr,List.mem_append,cJ n]
  constructor
  rintro(⟨u,h1,h2⟩|h)
  exact⟨u,ω,h2⟩
  split at h
  rename_i hl;exact⟨n,Nat.lt_succ_self n,hl,h⟩
  cases h
  rintro⟨u,h1,h2,h3⟩
  by_cases e:u=n
  subst e;rw[if_pos h2];exact .inr h3
  exact .inl ⟨u,ω,h2,h3⟩
theorem Wk {p:Pr} {r:Rv} {c:Cs} {x:Rl} (h:x∈Cj p r c):tI p r c x:=by
 obtain⟨k,hk,hb,h⟩:=(cJ _).1 h
 obtain⟨m,hm,h⟩:=(cH _).1 h
 obtain⟨u,hu,rfl,h1,h2⟩:=(cI _).1 h
 have ho:=Wc r (Bn p r c k) hm
 exact⟨⟨Int.natCast_nonneg _,by show ((_:Nat):Int)<_;omega⟩,⟨k,hk,rfl⟩,of_decide_eq_true hb,⟨u,hu,rfl⟩,h1,h2⟩
abbrev Eb (p:Pr) (c:Cs) (x:Rl):Int:=Ao p c+x.wait
abbrev Jj (p:Pr) (r:Rv) (c:Cs) (x:Rl):Int:=Ao p c+x.wait+r.flight
abbrev De (p:Pr) (r:Rv) (c:Cs) (x:Rl):Int:=Av p.acts (Ll p r c x+1)
def Je (p:Pr) (r:Rv) (c:Cs) (x:Rl):List Sg:=if 0<x.rise then aN (Bs r x) (atR p r c x) x.rise (Eb p c x) (Jj p r c x) else Fr (Bs r x) (atR p r c x) (Eb p c x) (Jj p r c x) 2
def Ef (r:Rv) (p:Pr) (c:Cs) (x:Rl):List Sg:=Fr (Bs r x) (Bs r x) 0 (Eb p c x) 0
def Gj (p:Pr) (r:Rv) (c:Cs) (x:Rl):List Sg:=Fr (atR p r c x) (atR p r c x) (Jj p r c x) (De p r c x) 0
abbrev Gh (p:Pr) (r:Rv) (c:Cs) (x:Rl):List Sg:=AbT p c.craft.toNat (Ll p r c x+1)
def relP (p:Pr) (r:Rv) (c:Cs) (x:Rl):List Sg:=Ef r p c x++Je p r c x++Gj p r c x++Gh p r c x
structure Ia (p:Pr) (r:Rv) (c:Cs) (x:Rl):Prop where
 s0:0<Eb p c x/\Eb p c x<Jj p r c x/\Jj p r c x<=De p r c x/\De p r c x<=Av p.acts p.acts.length/\Av p.acts p.acts.length<=3600000
 q4:(Jj p r c x-Eb p c x)%4=0
 sp:0<=x.spare/\x.spare<r.homes.length
 wait:0<=x.wait/\x.wait<=3600000
 rise:0<=x.rise/\x.rise<=1048576
 act:c.act.toNat+1<=Ll p r c x/\Ll p r c x<p.acts.length
 hp:(Bs r x).pt=true
 ap:(atR p r c x).pt=true
 hu:((Bs r x).up x.rise).pt=true
 au:((atR p r c x).up x.rise).pt=true
 hov:Be (Ef r p c x) (Bs r x) (Bs r x) 0 (Eb p c x)/\(Ef r p c x).length=1
 go:Be (Je p r c x) (Bs r x) (atR p r c x) (Eb p c x) (Jj p r c x)/\1<=(Je p r c x).length/\(Je p r c x).length<=3
 stay:Be (Gj p r c x) (atR p r c x) (atR p r c x) (Jj p r c x) (De p r c x)/\(Gj p r c x).length<=1
 tail:Be (Gh p r c x) (atR p r c x) ((Ea p p.acts.length).getD c.craft.toNat V3.zero) (De p r c x) (Av p.acts p.acts.length)/\(Gh p r c x).length<=5*p.acts.length
 own:Be (Iw p (Ll p r c x+1) c.craft.toNat) ((Ea p 0).getD c.craft.toNat V3.zero) (atR p r c x) 0 (De p r c x)
 app:Iw p p.acts.length c.craft.toNat=Iw p (Ll p r c x+1) c.craft.toNat++Gh p r c x
theorem vQ {l:List Ac} {a:Int}:∀k i,Xu l a k i<i+k->a<=Av l (Xu l a k i+1)
 |0,i,h=>by rw[Xu] at h;omega
 |k+1,i,h=>by
  rw[Xu] at h ⊢
  split
  assumption
  rename_i hn
  rw[if_neg hn] at h
  exact vQ k (i+1) ω
theorem eU {p:Pr} (ho:Vb p) {j:Nat}:∀m,j+m<=p.acts.length->Av p.acts j<=Av p.acts (j+m)
 |0,_=>Int.le_refl _
 |m+1,h=>by
  have h1:=eU ho (j:=j) m ω
  have h2:=ho.len (j+m) ω
  rw[show j+(m+1)=j+m+1 from rfl,Av];omega
theorem kH {p:Pr} {r:Rv} {c:Cs} {x:Rl} (hc:Hy p c) (hr:Ng r) (h:tI p r c x):Ia p r c x:=by
 have ho:=Du hc.1
 obtain⟨_,c1,c2,c3,c4⟩:=hc
 obtain⟨⟨n1,n2,f1,f2,f4⟩,hh,hw,hs⟩:=hr
 obtain⟨k,hk,ek⟩:=h.wait
 obtain⟨u,hu,eu⟩:=h.rise
 have wk:=hw.2.2 k hk
 have wu:=hs.2.2 u hu
 have act:=h.act
 have hlo:c.act.toNat+1<=Ll p r c x:=(vR _ _).1
 have hge:Jj p r c x<=De p r c x:=vQ _ _ (by have:=h.act;show Ll p r c x<_;omega)
 have hcr:c.craft.toNat<p.names.length:=by omega
 have e0:0<Ao p c:=Rd ho (c.act.toNat+1) ω (Nat.succ_pos _)
 have e1:=(ho.ends p.acts.length (Nat.le_refl _)).2
 have e2:De p r c x<=Av p.acts p.acts.length:=by
  have:=eU ho (j:=Ll p r c x+1) (p.acts.length-(Ll p r c x+1)) ω
  rwa [show Ll p r c x+1+(p.acts.length-(Ll p r c x+1))=p.acts.length by omega] at this
 have hp:(Bs r x).pt=true:=(hh x.spare.toNat (by have:=h.sp;omega)).1
 have ap:(atR p r c x).pt=true:=ho.to ω hcr
 have q4:(Jj p r c x-Eb p c x)%4=0:=by
  have:Int.tmod r.flight 4=0:=f4
  rw[Int.tmod_eq_emod_of_nonneg ω] at this
  show (Ao p c+x.wait+r.flight-(Ao p c+x.wait))%4=0
  omega
 have s1:0<Eb p c x:=by show 0<Ao p c+x.wait;omega
 have s2:Eb p c x<Jj p r c x:=by show Ao p c+x.wait<Ao p c+x.wait+r.flight;omega
 have ef:(Ea p (Ll p r c x+1)).getD c.craft.toNat V3.zero=atR p r c x:=uD p _ _
 have hov:=Nb (a:=Bs r x) (f:=0) (t:=Eb p c x) hp (Int.le_refl 0) ω ω
 have stay:=Nb (a:=atR p r c x) (f:=Jj p r c x) (t:=De p r c x) ap ω hge ω
 have tail:=oO ho hcr (k:=Ll p r c x+1) ω
 rw[ef] at tail
 have own:=Xo ho hcr (Ll p r c x+1) ω
 rw[ef] at own
 have go:Be (Je p r c x) (Bs r x) (atR p r c x) (Eb p c x) (Jj p r c x)/\(Je p r c x).length<=3:=by
  unfold Je
  split
  exact⟨eN hp ap h.l1 h.l2 ω s2 ω q4,by rw[aO];exact Nat.le_refl _⟩
  exact⟨Sq (.inl rfl) hp ap ω s2 ω,by have:=Il (Bs r x) (atR p r c x) (Eb p c x) (Jj p r c x) 2;omega⟩
 refine⟨⟨s1,s2,hge,e2,e1⟩,q4,h.sp,ω,ω,⟨hlo,act⟩,hp,ap,h.l1,h.l2,⟨hov,?_⟩,⟨go.1,go.1.pos s2,go.2⟩,⟨stay,Il _ _ _ _ _⟩,⟨tail,?_⟩,own,yX _ ω⟩
 have h1:=hov.pos s1
 have h2:=Il (Bs r x) (Bs r x) 0 (Eb p c x) 0
 show (Fr _ _ _ _ _).length=1
 omega
 have:=oG p c.craft.toNat (Ll p r c x+1) (p.acts.length-(Ll p r c x+1))
 show (rR _ _ _ _).length<=_
 omega
theorem Ia.chain {p:Pr} {r:Rv} {c:Cs} {x:Rl} (h:Ia p r c x):Be (relP p r c x) (Bs r x) ((Ea p p.acts.length).getD c.craft.toNat V3.zero) 0 (Av p.acts p.acts.length):=
 ((h.hov.1.app h.go.1).app h.stay.1).app h.tail.1
theorem Ia.len {p:Pr} {r:Rv} {c:Cs} {x:Rl} (h:Ia p r c x) (hn:p.acts.length<=5):2<=(relP p r c x).length/\(relP p r c x).length<=30:=by
 have h1:=h.hov.2
 have h2:=h.go.2
 have h3:=h.stay.2
 have h4:=h.tail.2
 unfold relP
 simp only[List.length_append]
 omega
end Go.Proofs.YtldnjomacnjhnaaGreat