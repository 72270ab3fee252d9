/- Part 23 of the proof of EX.row_holds, joined by program: no condition beyond the row's own. -/
import Derived.Test.YtkcnbaeoahoglaaGreatX22
import Derived.Test.YtkcnbaeoahoglaaGreatRows
import Derived.LaidMore
import Derived.OpenShut
import Derived.ShutString
import Derived.ChangeOld
import Derived.Lib.LaidTab
import Derived.Stop.Joined
import Derived.HandedShaped
import Derived.Deep.Fields
set_option maxRecDepth 100000
set_option maxHeartbeats 40000000
namespace Go.Proofs.YtkcnbaeoahoglaaGreat.Open
open Go.ChangeShapes Go.WideShapes Go.ChangeAt Go.RowKit Go.Deep
section
variable {H:Type} {enc:TypeId×Value->H} {W:World} {n:Nat} {y:DataW H×List MemPlace} {cs:List Value}
theorem uO (hl:cs.length=3) (h:DataW.trod enc Tryz.prog W 0 (λ_=>true) true n 60 cs=some y):∃a:Ac,wX W (rg 0 W.heap.size) a cs/\(a.name.size<=maxLen/\Cj a.len):=by
 match cs,hl with
 |[a,b,c],_=>
  obtain⟨m0,z0,h0⟩:=Hl (ty:=9) (off:=0) Tryz.underlying60 h 0 (by rfl)
  obtain⟨m1,z1,h1⟩:=Hl (ty:=3) (off:=1) Tryz.underlying60 h 1 (by rfl)
  obtain⟨m2,z2,h2⟩:=Hl (ty:=58) (off:=2) Tryz.underlying60 h 2 (by rfl)
  simp only[xW,AbV,AaT] at h0 h1 h2
  obtain⟨s,e0,_,hs⟩:=DataW.trod_string Tryz.underlying9 h0
  obtain⟨k1,e1,f1⟩:=Ig h1
  obtain⟨ad,len,cap,e2⟩:=Go.Joins.slice_form Tryz.underlying58 h2
  rw[e2] at h2
  obtain⟨l,g1,g2,g3,_⟩:=Oh Tryz.underlying58 Acp (by decide) h2
  obtain⟨L,L1,L2⟩:=Yw (cells:=Mv.cells) l (λcs hc=>by obtain⟨hl,n,y,ht⟩:=g2 cs hc;exact uP hl ht)
  simp at e0 e1 e2
  refine⟨⟨s,k1,L⟩,⟨.slice ad len cap,by simp[e0,e1,e2],?_⟩,hs,f1⟩
  show Dy W _ 6 _ L.length (uF L)
  have hL:L.length=len:=by omega
  rw[hL]
  unfold uF
  rw[<-L2]
  exact g3
theorem jV:∀(l:List (List Value)) (_:∀cs∈l,∃a:Ac,wX W (rg 0 W.heap.size) a cs/\(a.name.size<=maxLen/\Cj a.len)),∃L:List Ac,L.length=l.length/\Qt W (rg 0 W.heap.size) L l.flatten/\∀a∈L,(a.name.size<=maxLen/\Cj a.len)
 |[],_=>⟨[],rfl,rfl,by simp⟩
 |cs::l,h=>by
  obtain⟨a,ha,hs⟩:=h cs (by simp)
  obtain⟨L,h1,h2,h3⟩:=jV l (λc hc=>h c (by simp[hc]))
  refine⟨a::L,by simp[h1],⟨cs,l.flatten,by simp,ha,h2⟩,λx hx=>?_⟩
  rcases List.mem_cons.1 hx with rfl|hx
  exact hs
  exact h3 x hx
theorem open_prog2 {v:Value} {d:DataW H} {p:List MemPlace} {base:Nat} (hv:Value.okWide Tryz.prog W .any base 26 v) (h:DataW.Trod enc Tryz.prog W 0 (λ_=>true) true 26 v d p):
  ∃(vn vh va:Value) (pr:Pr),v= .agg #[vn,vh,va]/\Iw W W.heap.size vn vh va pr/\(∀s∈pr.names,s.size<=maxLen)/\(∀a∈pr.acts,(a.name.size<=maxLen/\Cj a.len)):=by
 obtain⟨v0,v1,v2,y0,y1,y2,n,rfl,_,_,h0,h1,h2⟩:=Go.Joins.open_agg3 Tryz.underlying26 (by kernel_rfl) (by kernel_rfl) hv h
 obtain⟨a0,l0,c0,e0⟩:=Go.Joins.slice_form Tryz.underlying22 h0
 obtain⟨a1,l1,c1,e1⟩:=Go.Joins.slice_form Tryz.underlying23 h1
 obtain⟨a2,l2,c2,e2⟩:=Go.Joins.slice_form Tryz.underlying24 h2
 obtain rfl:v0= .slice a0 l0 c0:=by simpa using e0
 obtain rfl:v1= .slice a1 l1 c1:=by simpa using e1
 obtain rfl:v2= .slice a2 l2 c2:=by simpa using e2
 obtain⟨N,hN,sN,_,zN⟩:=oN h0
 obtain⟨lh,g1,g2,g3,_⟩:=Oh Tryz.underlying23 xX (by decide) h1
 obtain⟨Hm,H1,H2⟩:=Yw (cells:=λv:V3=>[.int .i64 v.x,.int .i64 v.y,.int .i64 v.z]) lh (λcs hc=>by obtain⟨hl,n,y,ht⟩:=g2 cs hc;exact bC hl ht)
 obtain⟨la,k1,k2,k3,_⟩:=Oh Tryz.underlying24 AcP (by decide) h2
 obtain⟨Ac,A1,A2,A3⟩:=jV la (λcs hc=>by obtain⟨hl,n,y,ht⟩:=k2 cs hc;exact uO hl ht)
 refine⟨_,_,_,⟨N,Hm,Ac⟩,rfl,⟨sN,?_,la.flatten,?_,A2⟩,zN,A3⟩
 have hL:Hm.length=l1:=by omega
 show Cz W 0 W.heap.size 3 _ Hm.length (Iz Hm)
 rw[hL]
 unfold Iz
 rw[<-H2]
 exact g3
 have hL:Ac.length=l2:=by omega
 show Cz W 0 W.heap.size 3 _ Ac.length _
 rw[hL]
 exact k3
theorem zS {a0:Option Addr} {len0 cap0 fuel:Nat} {t e:TypeId} (ht:Tryz.prog.underlying t=some (.slice e)) (h:DataW.trod enc Tryz.prog W 0 (λ_=>true) true fuel t [.slice a0 len0 cap0]=some y):len0<=cap0:=by
 rcases open_slice ht h with⟨hcs,_⟩|⟨x,n,c,m,nn,D,Pl,hcs,_,hl,hm,hmm,_,hi⟩
 simp at hcs
 obtain⟨rfl,rfl,rfl⟩:=hcs
 exact Nat.le_refl _
 simp at hcs
 obtain⟨rfl,rfl,rfl⟩:=hcs
 have hmm':m=cap0:=by simpa using hmm
 omega
theorem open_desc {v:Value} {d:DataW H} {p:List MemPlace} {base:Nat} (hv:Value.okWide Tryz.prog W .any base 28 v) (h:DataW.Trod enc Tryz.prog W 0 (λ_=>true) true 28 v d p):
  ∃(A:Option Addr) (c:Nat) (de:De),v= .agg #[.slice A de.sides.length c,.int .i64 de.across,.int .i64 de.down,.int .i64 de.ground]/\Cz W 0 W.heap.size 3 (.slice A de.sides.length c) de.sides.length (Iz de.sides)/\de.sides.length<=c/\Cj de.across/\Cj de.down/\Cj de.ground:=by
 obtain⟨v0,v1,v2,v3,y0,y1,y2,y3,n,rfl,_,_,h0,h1,h2,h3⟩:=Go.Joins.open_agg4 Tryz.underlying28 (by kernel_rfl) (by kernel_rfl) hv h
 obtain⟨a0,l0,c0,e0⟩:=Go.Joins.slice_form Tryz.underlying23 h0
 obtain rfl:v0= .slice a0 l0 c0:=by simpa using e0
 obtain⟨k1,e1,f1⟩:=Ig h1
 obtain⟨k2,e2,f2⟩:=Ig h2
 obtain⟨k3,e3,f3⟩:=Ig h3
 have hc:=zS Tryz.underlying23 h0
 obtain⟨lh,g1,g2,g3,_⟩:=Oh Tryz.underlying23 xX (by decide) h0
 obtain⟨Hm,H1,H2⟩:=Yw (cells:=λv:V3=>[.int .i64 v.x,.int .i64 v.y,.int .i64 v.z]) lh (λcs hc=>by obtain⟨hl,n,y,ht⟩:=g2 cs hc;exact bC hl ht)
 have hL:Hm.length=l0:=by omega
 subst hL
 simp at e1 e2 e3
 refine⟨a0,c0,⟨Hm,k1,k2,k3⟩,by simp[e1,e2,e3],?_,hc,f1,f2,f3⟩
 show Cz W 0 W.heap.size 3 _ Hm.length (Iz Hm)
 unfold Iz
 rw[<-H2]
 exact g3
end
end Go.Proofs.YtkcnbaeoahoglaaGreat.Open
namespace Go.Proofs.YtkcnbaeoahoglaaGreat
open Go.Proofs.Tryz
open Go.RowKit
theorem sI {w:World} {D:Nat->Prop} {l:List V3} {v:Value} (h:Dy w D 3 v l.length (Iz l)) {E:Dd} (hw:E.w=w) (hD:∀b,D b->E.D b):VR E (Wg l) v:=
 Pw h hw hD λi j hi hj=>by
  have:=Oe (λv:V3=>[Value.int .i64 v.x,.int .i64 v.y,.int .i64 v.z]) 3 (λ_=>rfl) l i j V3.zero hi hj
  unfold Iz
  rw[this]
  match j,hj with
  |0,_=>exact .lit _ _
  |1,_=>exact .lit _ _
  |2,_=>exact .lit _ _
theorem Ac1 {w:World} {D:Nat->Prop} {l:List Mv} {v:Value} (h:Dy w D 6 v l.length (uF l)) {E:Dd} (hw:E.w=w) (hD:∀b,D b->E.D b):VR E (Abp l) v:=
 Pw h hw hD λi j hi hj=>by
  have:=Oe Mv.cells 6 (λ_=>rfl) l i j Mv.none hi hj
  unfold uF
  rw[this]
  match j,hj with
  |0,_=>exact .lit _ _
  |1,_=>exact .lit _ _
  |2,_=>exact .lit _ _
  |3,_=>exact .lit _ _
  |4,_=>exact .lit _ _
  |5,_=>exact .lit _ _
theorem zO {w:World} {D:Nat->Prop} {l:List ByteArray} {v:Value} (h:Dy w D 1 v l.length (strs l)) {E:Dd} (hw:E.w=w) (hD:∀b,D b->E.D b):VR E (Po l) v:=
 Pw h hw hD λi j hi hj=>by
  obtain rfl:j=0:=by omega
  have e:(strs l).getD (i*1+0) undef= .string (l.getD i ByteArray.empty):=by simp[strs,List.getD_eq_getElem?_getD,hi]
  rw[e]
  exact .lit _ _
theorem AaL {w:World} {D:Nat->Prop} {l:List Ac} {v:Value} {cs:List Value} (h:Dy w D 3 v l.length cs) (ha:Qt w D l cs) {E:Dd} (hw:E.w=w) (hD:∀b,D b->E.D b):VR E (Qi l) v:=
 Pw h hw hD λi j hi hj=>by
  obtain⟨vm,hm,hat⟩:=ha.at_ hi
  have e:l.getD i Ac.none=l[i]:=by rw[List.getD_eq_getElem?_getD,List.getElem?_eq_getElem hi];rfl
  have g:∀u,[Value.string l[i].name,.int .i64 l[i].len,vm][j]?=some u->cs.getD (i*3+j) undef=u:=λu hu=>by
   rw[List.getD_eq_getElem?_getD,hat j u hu];rfl
  rw[e]
  match j,hj with
  |0,_=>rw[g _ rfl];exact .lit _ _
  |1,_=>rw[g _ rfl];exact .lit _ _
  |2,_=>rw[g _ rfl];exact Ac1 (E:=E.fz) hm hw hD
theorem Ab1 {w:World} {hi:Nat} {vn vh va:Value} {p:Pr} (h:Iw w hi vn vh va p) {E:Dd} (hw:E.w=w) (hD:∀b,b<hi->E.D b):VR E (Em p) (.agg #[vn,vh,va]):=by
 obtain⟨cs,k1,k2⟩:=h.acts
 have hD2:∀b,rg 0 hi b->E.D b:=λb hb=>hD b hb.2
 refine .agg _ _ _ rfl λi hi=>?_
 have h3:i<3:=hi
 match i,h3 with
 |0,_=>exact zO h.names hw hD2
 |1,_=>exact sI h.homes hw hD2
 |2,_=>exact AaL k1 k2 hw hD2
theorem AaX {w:World} {A:Option Addr} {c:Nat} {d:De} (h:Cz w 0 w.heap.size 3 (.slice A d.sides.length c) d.sides.length (Iz d.sides)) (hc:d.sides.length<=c) {E:Dd} (hw:E.w=w) (hD:∀b,b<w.heap.size->E.D b):VR E (Fy d) (.agg #[.slice A d.sides.length c,.int .i64 d.across,.int .i64 d.down,.int .i64 d.ground]):=by
 refine .agg _ _ _ rfl λi hi=>?_
 have h3:i<4:=hi
 match i,h3 with
 |0,_=>exact .slc _ _ _ _ _ _ hc (sI h hw λb hb=>hD b hb.2)
 |1,_=>exact .lit _ _
 |2,_=>exact .lit _ _
 |3,_=>exact .lit _ _
theorem AF.call {P:Program} {f:FuncId} {args:List AV} {v:Value} (h:AF P f args (.lit v)) (W:World) (vs:Array Value) (hn:vs.size=args.length) (hv:∀E:Dd,E.w=W->(∀b,b<W.heap.size->E.D b)->∀i,i<args.length->VR E (args.getD i .top) (vs.getD i undef)):Calls P f vs W λe w'=>e= .returned v/\Below W.heap.size W w':=by
 refine(h { π:=λ_=>0,cap:=λ_=>0,A:=λ_=>False,D:=λb=>b<W.heap.size,w:=W } vs (λb hb=>hb) hn λi hi=>hv _ rfl (λb hb=>hb) i hi).mono ?_
 rintro e w' ⟨u,D',rfl,hr,hb,_⟩
 exact⟨by rw[hr.lit_inv],hb⟩
theorem eN {a b:List Int} (h:a.length=b.length) (hq:∀q,q<a.length->a.getD q 0=b.getD q 0):a=b:=by
 refine List.ext_getElem h λi h1 h2=>?_
 have:=hq i h1
 rwa [List.getD_eq_getElem?_getD,List.getD_eq_getElem?_getD,List.getElem?_eq_getElem h1,List.getElem?_eq_getElem h2] at this
theorem Wl (a b:List Int) (ha:a.length<=1000000) (hb:b.length<=1000000):AF Tryz.prog 40 [Bc a,Bc b] (.bool (bP (a=b))):=by
 refine Dl ⟨[(0,Bc a),(1,Bc b)],[],0,26⟩ func40 rfl 26 ntmps40 (by kernel_rfl) (by kernel_rfl) λB D0 hA0=>?_
 refine Bu 1 [0,1] ?_
 refine Al (Ab ?_)
 refine Ae 1 ?_
 refine Bl (.int (a.length:Int)) (Dg (.tmp 6) 65 #[65] underlying65 a.length (.inl ⟨1,(λi0=> .int ((a).getD i0 0)),by kernel_rfl⟩)) ?_
 refine Ae 1 ?_
 refine Bl (.int (b.length:Int)) (Dg (.tmp 8) 65 #[65] underlying65 b.length (.inl ⟨1,(λi0=> .int ((b).getD i0 0)),by kernel_rfl⟩)) ?_
 refine qb (!decide ((a.length:Int)=(b.length:Int))) ?_
 refine As [0,1,10] ?_
 refine Ao (decide ((a.length:Int)=(b.length:Int))) (λhx1=>?_) (λhx1=>?_)
 have hx1d:=of_decide_eq_true hx1
 refine qF (nt hx1) ?_
 refine Aw (Al ?_)
 refine Ab (Ae 1 ?_)
 refine Bl (.int (a.length:Int)) (Dg (.tmp 11) 65 #[65] underlying65 a.length (.inl ⟨1,(λi0=> .int ((a).getD i0 0)),by kernel_rfl⟩)) ?_
 refine Ae 1 ?_
 refine As [0,1,12,13] ?_
 refine Bb (Cn (λm s=>∃i,i<=a.length/\m=a.length-i/\(∀q,q<i->a.getD q 0=b.getD q 0)/\s=⟨[(0,Bc a),(1,Bc b),(12,.int (a.length:Int)),(13,.int (i:Int))],[],0,26⟩) a.length ⟨0,Nat.zero_le _,rfl,(λq hq=>absurd hq (Nat.not_lt_zero q)),(by kernel_rfl)⟩ ?_)
 rintro _ _ ⟨i,hin,rfl,hFi,rfl⟩
 refine Ab (qb (decide ((i:Int)<(a.length:Int))) ?_)
 refine As [0,1,12,13,14] ?_
 refine Al ?_
 refine Ao (decide ((i:Int)<(a.length:Int))) (λhx2=>?_) (λhx2=>?_)
 have hx2d:=of_decide_eq_true hx2
 refine qT hx2 ?_
 refine Aw (Al ?_)
 refine Bb (Bu 2 [0,1,5,12,13] ?_)
 refine Dk [(2,.elt 1 (λq=>AV.cell (.int ((a).getD i 0)) q),.none),(6,.elt 1 (λq=>AV.cell (.int ((b).getD i 0)) q),.none),(8,.bool (!decide ((a).getD i 0=(b).getD i 0)),.none)] [0,1,12,13,24] 0 ⟨?_,?_,?_,trivial⟩ ?_
 exact Bn (Bk 65 (.tmp 16) (.tmp 17) underlying65 1 a.length i (λi0=> .int ((a).getD i0 0)) (i:Int) sizeOf3)
 exact Bn (Bk 65 (.tmp 20) (.tmp 21) underlying65 1 b.length i (λi0=> .int ((b).getD i0 0)) (i:Int) sizeOf3)
 exact uZ
 refine Ao (decide ((a).getD i 0=(b).getD i 0)) (λhx3=>?_) (λhx3=>?_)
 have hx3d:=of_decide_eq_true hx3
 refine qF (nt hx3) ?_
 refine Aw (Bi ?_)
 refine qw ((i:Int)+1) ((i+1:Nat):Int) ?_
 refine Ae 1 ?_
 refine Bx [0,1,12,13] ?_
 exact⟨_,(by omega:a.length-(i+1)<a.length-i),i+1,(by omega),rfl,(λq hq=>(Nat.lt_or_ge q i).elim (λg=>hFi q g) λg=>by have e:q=i:=(by omega);subst e;omega),(by kernel_rfl)⟩
 have hx3d:=of_decide_eq_false hx3
 refine qT (nf hx3) ?_
 refine Bu 1 [4] ?_
 refine Be ?_
 exact⟨.inl rfl,(Bv results40 (Ak (x:= .bool false) (by kernel_rfl) (by kernel_rfl))).cast (congrArg AV.bool (Ce (λh=>by subst h;omega)).symm)⟩
 have hx2d:=of_decide_eq_false hx2
 refine qF hx2 ?_
 refine Co (Bu 1 [4] ?_)
 refine Be ?_
 exact⟨.inl rfl,(Bv results40 (Ak (x:= .bool true) (by kernel_rfl) (by kernel_rfl))).cast (congrArg AV.bool (Dq (eN (by omega) (λq hq=>hFi q (by omega)))).symm)⟩
 have hx1d:=of_decide_eq_false hx1
 refine qT (nf hx1) ?_
 refine Bu 1 [4] ?_
 refine Be ?_
 exact⟨.inl rfl,(Bv results40 (Ak (x:= .bool false) (by kernel_rfl) (by kernel_rfl))).cast (congrArg AV.bool (Ce (λh=>by subst h;omega)).symm)⟩
def RowsIn (s:Sg):Prop:=s.x.length<=1000000/\s.y.length<=1000000/\s.z.length<=1000000
theorem Aai {s t:Sg} (h1:s.f=t.f) (h2:s.t=t.t) (h3:s.o=t.o) (h4:s.x=t.x) (h5:s.y=t.y) (h6:s.z=t.z):s=t:=by
 cases s;cases t;simp_all
theorem wI (s t:Sg) (hs:RowsIn s) (ht:RowsIn t):AF Tryz.prog 39 [Bs s,Bs t] (.bool (bP (s=t))):=by
 refine Dl ⟨[(0,Bs s),(1,Bs t)],[],0,45⟩ func39 rfl 45 ntmps39 (by kernel_rfl) (by kernel_rfl) λB D0 hA0=>?_
 refine Bu 3 [2,3] ?_
 refine Ab (Ae 4 ?_)
 refine qb (decide (s.f=t.f)) ?_
 refine Ae 1 ?_
 refine Ao (decide (s.f=t.f)) (λhx1=>?_) (λhx1=>?_)
 have hx1d:=of_decide_eq_true hx1
 refine Bg 10 _ true hx1 ?_
 refine Ae 4 ?_
 refine Ga (decide (s.t=t.t)) ?_
 refine Ae 2 ?_
 refine Ao (decide (s.t=t.t)) (λhx2=>?_) (λhx2=>?_)
 have hx2d:=of_decide_eq_true hx2
 refine Bg 17 _ true hx2 ?_
 refine Ae 4 ?_
 refine Ga (decide (s.o=t.o)) ?_
 refine Ae 2 ?_
 refine Ao (decide (s.o=t.o)) (λhx3=>?_) (λhx3=>?_)
 have hx3d:=of_decide_eq_true hx3
 refine Bg 24 _ true hx3 ?_
 refine Ae 4 ?_
 refine Kk (Wl s.x t.x hs.1 ht.1) ?_
 refine Ae 2 ?_
 refine Ao (bP (s.x=t.x)) (λhx4=>?_) (λhx4=>?_)
 refine Bg 31 _ true hx4 ?_
 refine Ae 4 ?_
 refine Kk (Wl s.y t.y hs.2.1 ht.2.1) ?_
 refine Ae 2 ?_
 refine Ao (bP (s.y=t.y)) (λhx5=>?_) (λhx5=>?_)
 refine Bg 38 _ true hx5 ?_
 refine Ae 4 ?_
 refine Kk (Wl s.z t.z hs.2.2 ht.2.2) ?_
 refine Ae 2 ?_
 refine As [4] ?_
 refine Be ?_
 exact⟨.inl rfl,(Bv results39 (Ak (x:= .bool (bP (s.z=t.z))) (by kernel_rfl) (by kernel_rfl))).cast (congrArg AV.bool (xN ⟨λh=>Aai (by omega) (by omega) (by omega) (Cq hx4) (Cq hx5) h,congrArg Sg.z⟩))⟩
 refine Bg 38 _ false hx5 ?_
 refine Ae 7 ?_
 refine As [4] ?_
 refine Be ?_
 exact⟨.inl rfl,(Bv results39 (Ak (x:= .bool false) (by kernel_rfl) (by kernel_rfl))).cast (congrArg AV.bool (Ce (λh=>Tx hx5 (congrArg Sg.y h))).symm)⟩
 refine Bg 31 _ false hx4 ?_
 refine Ae 14 ?_
 refine As [4] ?_
 refine Be ?_
 exact⟨.inl rfl,(Bv results39 (Ak (x:= .bool false) (by kernel_rfl) (by kernel_rfl))).cast (congrArg AV.bool (Ce (λh=>Tx hx4 (congrArg Sg.x h))).symm)⟩
 have hx3d:=of_decide_eq_false hx3
 refine Bg 24 _ false hx3 ?_
 refine Ae 21 ?_
 refine As [4] ?_
 refine Be ?_
 exact⟨.inl rfl,(Bv results39 (Ak (x:= .bool false) (by kernel_rfl) (by kernel_rfl))).cast (congrArg AV.bool (Ce (λh=>by have e1:=congrArg Sg.f h;have e2:=congrArg Sg.t h;have e3:=congrArg Sg.o h;omega)).symm)⟩
 have hx2d:=of_decide_eq_false hx2
 refine Bg 17 _ false hx2 ?_
 refine Ae 28 ?_
 refine As [4] ?_
 refine Be ?_
 exact⟨.inl rfl,(Bv results39 (Ak (x:= .bool false) (by kernel_rfl) (by kernel_rfl))).cast (congrArg AV.bool (Ce (λh=>by have e1:=congrArg Sg.f h;have e2:=congrArg Sg.t h;have e3:=congrArg Sg.o h;omega)).symm)⟩
 have hx1d:=of_decide_eq_false hx1
 refine Bg 10 _ false hx1 ?_
 refine Ae 35 ?_
 refine As [4] ?_
 refine Be ?_
 exact⟨.inl rfl,(Bv results39 (Ak (x:= .bool false) (by kernel_rfl) (by kernel_rfl))).cast (congrArg AV.bool (Ce (λh=>by have e1:=congrArg Sg.f h;have e2:=congrArg Sg.t h;have e3:=congrArg Sg.o h;omega)).symm)⟩
theorem zW {a b:List Sg} (h:a.length=b.length) (hq:∀q,q<a.length->a.getD q Sg.none=b.getD q Sg.none):a=b:=by
 refine List.ext_getElem h λi h1 h2=>?_
 have:=hq i h1
 rwa [List.getD_eq_getElem?_getD,List.getD_eq_getElem?_getD,List.getElem?_eq_getElem h1,List.getElem?_eq_getElem h2] at this
def Ib (l:List Sg):Prop:=l.length<=1000000/\∀i,RowsIn (l.getD i Sg.none)
theorem sK (a b:List Sg) (ha:Ib a) (hb:Ib b):AF Tryz.prog 38 [Bj a,Bj b,.fn 39 []] (.bool (bP (a=b))):=by
 have ha1:=ha.1
 have hb1:=hb.1
 refine Dl ⟨[(0,Bj a),(1,Bj b),(2,.fn 39 [])],[],0,32⟩ func38 rfl 32 ntmps38 (by kernel_rfl) (by kernel_rfl) λB D0 hA0=>?_
 refine Bu 1 [0,1,2] ?_
 refine Al (Ab ?_)
 refine Ae 1 ?_
 refine Bl (.int ((a).length:Int)) (Dg (.tmp 10) 41 #[41] underlying41 ((a).length) (.inl ⟨6,(λi0=>Bs ((a).getD i0 Sg.none)),by kernel_rfl⟩)) ?_
 refine Ae 1 ?_
 refine Bl (.int ((b).length:Int)) (Dg (.tmp 12) 41 #[41] underlying41 ((b).length) (.inl ⟨6,(λi0=>Bs ((b).getD i0 Sg.none)),by kernel_rfl⟩)) ?_
 refine qb (!decide (((a).length:Int)=((b).length:Int))) ?_
 refine As [0,1,2,14] ?_
 refine Ao (decide (((a).length:Int)=((b).length:Int))) (λhx1=>?_) (λhx1=>?_)
 have hx1d:=of_decide_eq_true hx1
 refine qF (nt hx1) ?_
 refine Aw (Al ?_)
 refine Ab (Ae 1 ?_)
 refine Bl (.int ((a).length:Int)) (Dg (.tmp 15) 41 #[41] underlying41 ((a).length) (.inl ⟨6,(λi0=>Bs ((a).getD i0 Sg.none)),by kernel_rfl⟩)) ?_
 refine Ae 1 ?_
 refine As [1,2,15,16,17] ?_
 refine Bb (Cn (λm s=>∃i,i<=a.length/\m=a.length-i/\(∀q,q<i->a.getD q Sg.none=b.getD q Sg.none)/\s=⟨[(1,Bj b),(2,.fn 39 []),(15,Bj a),(16,.int ((a).length:Int)),(17,.int (i:Int))],[],0,32⟩) a.length ⟨0,Nat.zero_le _,rfl,(λq hq=>absurd hq (Nat.not_lt_zero q)),(by kernel_rfl)⟩ ?_)
 rintro _ _ ⟨i,hin,rfl,hFi,rfl⟩
 refine Ab (qb (decide ((i:Int)<((a).length:Int))) ?_)
 refine As [1,2,15,16,17,18] ?_
 refine Al ?_
 refine Ao (decide ((i:Int)<((a).length:Int))) (λhx2=>?_) (λhx2=>?_)
 have hx2d:=of_decide_eq_true hx2
 refine qT hx2 ?_
 refine Aw (Al ?_)
 refine Bb (Ab ?_)
 refine Ae 1 ?_
 refine Bl (.elt 6 (λq=>AV.cell (Bs ((a).getD i Sg.none)) q)) (Bk 41 (.tmp 15) (.tmp 17) underlying41 6 ((a).length) i (λi0=>Bs ((a).getD i0 Sg.none)) (i:Int) sizeOf67) ?_
 refine Ae 4 ?_
 refine As [1,2,7,8,15,16,17] ?_
 refine Ab (Ae 2 ?_)
 refine Bl (.elt 6 (λq=>AV.cell (Bs ((b).getD i Sg.none)) q)) (Bk 41 (.tmp 22) (.tmp 23) underlying41 6 ((b).length) i (λi0=>Bs ((b).getD i0 Sg.none)) (i:Int) sizeOf67) ?_
 refine Ae 3 ?_
 refine As [1,2,8,9,15,16,17] ?_
 refine Ab (Ae 3 ?_)
 refine Bl (.bool (bP ((a.getD i Sg.none)=(b.getD i Sg.none)))) (Aab (.tmp 26) 39 #[.tmp 27,.tmp 28] #[67,67] [] [Bs ((a).getD i Sg.none),Bs ((b).getD i Sg.none)] (.bool (bP ((a.getD i Sg.none)=(b.getD i Sg.none)))) (wI (a.getD i Sg.none) (b.getD i Sg.none) (ha.2 i) (hb.2 i))) ?_
 refine qb (!bP ((a.getD i Sg.none)=(b.getD i Sg.none))) ?_
 refine As [1,2,15,16,17,30] ?_
 refine Ao (bP ((a.getD i Sg.none)=(b.getD i Sg.none))) (λhx3=>?_) (λhx3=>?_)
 refine qF (nt hx3) ?_
 refine Aw (Ee [1,2,15,16,17,30] ⟨[(1,Bj b),(2,.fn 39 []),(15,Bj a),(16,.int ((a).length:Int)),(17,.int (i:Int)),(30,.bool false)],[(0,.box 67 [.int (((a).getD i Sg.none).f),.int (((a).getD i Sg.none).t),.int (((a).getD i Sg.none).o),Bc (((a).getD i Sg.none).x),Bc (((a).getD i Sg.none).y),Bc (((a).getD i Sg.none).z)]),(1,.box 67 [.int (((b).getD i Sg.none).f),.int (((b).getD i Sg.none).t),.int (((b).getD i Sg.none).o),Bc (((b).getD i Sg.none).x),Bc (((b).getD i Sg.none).y),Bc (((b).getD i Sg.none).z)])],2,32⟩ ?_)
 refine Hg [] 0 0 hA0 _ (Av (Av Cx)) ?_
 refine Bi (qw ((i:Int)+1) ((i+1:Nat):Int) ?_)
 refine Ae 1 ?_
 refine Bx [1,2,15,16,17] ?_
 exact⟨_,(by omega:a.length-(i+1)<a.length-i),i+1,(by omega),rfl,(λq hq=>(Nat.lt_or_ge q i).elim (λg=>hFi q g) λg=>by have e:q=i:=(by omega);subst e;exact Cq hx3),(by kernel_rfl)⟩
 refine qT (nf hx3) ?_
 refine Bu 1 [6] ?_
 refine Be ?_
 exact⟨.inl rfl,(Bv results38 (Ak (x:= .bool false) (by kernel_rfl) (by kernel_rfl))).cast (congrArg AV.bool (Ce (λh=>Tx hx3 (by rw[h]))).symm)⟩
 have hx2d:=of_decide_eq_false hx2
 refine qF hx2 ?_
 refine Co (Bu 1 [6] ?_)
 refine Be ?_
 exact⟨.inl rfl,(Bv results38 (Ak (x:= .bool true) (by kernel_rfl) (by kernel_rfl))).cast (congrArg AV.bool (Dq (zW (by omega) (λq hq=>hFi q (by omega)))).symm)⟩
 have hx1d:=of_decide_eq_false hx1
 refine qT (nf hx1) ?_
 refine Bu 1 [6] ?_
 refine Be ?_
 exact⟨.inl rfl,(Bv results38 (Ak (x:= .bool false) (by kernel_rfl) (by kernel_rfl))).cast (congrArg AV.bool (Ce (λh=>by subst h;omega)).symm)⟩
theorem wJ (a b:List Sg) (ha:Ib a) (hb:Ib b):AF Tryz.prog 17 [Bj a,Bj b] (.bool (bP (a=b))):=by
 refine Dl ⟨[(0,Bj a),(1,Bj b)],[],0,8⟩ func17 rfl 8 ntmps17 (by kernel_rfl) (by kernel_rfl) λB D0 hA0=>?_
 refine Bu 1 [0,1] ?_
 refine Ab (Ae 2 ?_)
 refine Fg (sK a b ha hb) ?_
 refine Ae 1 ?_
 refine As [4] ?_
 refine Be ?_
 exact⟨.inl rfl,(Bv results17 (Ak (x:= .bool (bP (a=b))) (by kernel_rfl) (by kernel_rfl))).cast (by kernel_rfl)⟩
theorem dJ {f:FuncId} {args args':List AV} {r r':AV} (h:AF Tryz.prog f args r) (hl:args'.length=args.length) (ha:∀i,i<args.length->∀E v,VR E (args'.getD i .top) v->VR E (args.getD i .top) v) (hr:∀E v,VR E r v->VR E r' v):AF Tryz.prog f args' r':=λE vs hD hn hv=>by
 refine Calls.mono (h E vs hD (by omega) λi hi=>ha i hi _ _ (hv i (by omega))) ?_
 rintro e w' ⟨v,D',h1,h2,h3⟩
 exact⟨v,D',h1,hr _ _ h2,h3⟩
theorem VR.nil_path {E:Dd} {v:Value} (h:VR E (.lit (.slice none 0 0)) v):VR E (Bj []) v:=by
 have:=h.lit_inv
 subst this
 exact .sl0 _ _ _ _ _
abbrev Acq (p:Nat->Int) (m:Nat) (a b d:Int):Nat->Int:=cN p m a b d (m-1)
theorem jG (p:Nat->Int) (a b d:Int) (ha:Cj a) (hb:Cj b) (hd:Cj d) (hdp:0<d):AF Tryz.prog 98 [Bf 0 p,WA a,WA b,WA d] (.lit (.tuple #[.slice none 0 0,.int .i64 0])):=by
 refine Dl ⟨[(0,Bf 0 p),(1,.lit (Ai a)),(2,.lit (Ai b)),(3,.lit (Ai d))],[],0,121⟩ func98 rfl 121 ntmps98 (by kernel_rfl) (by kernel_rfl) λB D0 hA0=>?_
 refine Bu 5 [0,5,6,7] ?_
 refine Al (Ab ?_)
 refine Ae 1 ?_
 refine Fg (Oy 0 p (by omega) (λi hi=>absurd hi (Nat.not_lt_zero i)) (.inl rfl)) ?_
 refine qb false ?_
 refine Ae 2 ?_
 refine Ei (.bool true) .none (Br 66 #[.tmp 21] #[96] [.lit (Ai a)] (.bool true) (Ju _ (Iq ha))) ?_
 refine Ga false ?_
 refine Ae 3 ?_
 refine Ei (.bool true) .none (Br 66 #[.tmp 26] #[96] [.lit (Ai b)] (.bool true) (Ju _ (Iq hb))) ?_
 refine Ga false ?_
 refine Ae 3 ?_
 refine Ei (.bool true) .none (Br 66 #[.tmp 31] #[96] [.lit (Ai d)] (.bool true) (Ju _ (Iq hd))) ?_
 refine Ga false ?_
 refine Ae 1 ?_
 refine As [0,5,6,7,34] ?_
 refine Bq (Aw ?_)
 refine Al (Ab ?_)
 refine Ae 1 ?_
 refine Fg (Us d (Iq hd)) ?_
 refine qb (decide (d.sign<=0)) ?_
 refine As [0,5,6,7,37] ?_
 refine qF (b:=(decide (d.sign<=0))) (decide_eq_false (by rw[Int.sign_eq_one_of_pos hdp];decide)) ?_
 refine Aw (Al ?_)
 refine Ab (Ae 1 ?_)
 refine Bl (.int 0) (Dg (.tmp 38) 141 #[141] underlying141 0 (.inl ⟨2,(λi0=> .lit (Ai (p i0))),by kernel_rfl⟩)) ?_
 refine qb true ?_
 refine As [0,5,6,7,40] ?_
 refine Ca (Bu 2 [8,9] ?_)
 refine Be ?_
 exact⟨.inl rfl,(Cv results98 (Ak (x:= .lit (.slice none 0 0)) (by kernel_rfl) (by kernel_rfl)) (Ak (x:= .int 0) (by kernel_rfl) (by kernel_rfl))).cast (by kernel_rfl)⟩
theorem VR.nil_poly {E:Dd} {v:Value} {c:Nat->Int} {e:Int} (h:VR E (.lit (.tuple #[.slice none 0 0,.int .i64 e])) v):VR E (.tup [Bf 0 c,.int e]) v:=by
 have:=h.lit_inv
 subst this
 refine .tup _ _ _ rfl λi hi=>?_
 match i,hi with
 |0,_=>exact .sl0 _ _ _ _ _
 |1,_=>exact .lit _ _
theorem Tu (m:Nat) (p:Nat->Int) (a b d:Int) (hm:m<=6) (hp:∀i,Cj (p i)) (hl:m=0\/p (m-1)≠0) (ha:Cj a) (hb:Cj b) (hd:Cj d) (hdp:0<d):AF Tryz.prog 98 [Bf m p,WA a,WA b,WA d] (.tup [Bf (Du (Acq p m a b d) m) (Acq p m a b d),.int 0]):=by
 cases m with
 |zero=>exact dJ (jG p a b d ha hb hd hdp) rfl (λ_ _ _ _ h=>h) λE v hv=>hv.nil_poly
 |succ k=>exact jH k p a b d (by omega) hp (hl.resolve_left (by omega)) ha hb hd hdp
abbrev Su (l:List Int):Nat:=Du (Pd l) l.length
abbrev Rr (l:List Int) (a b d:Int):Nat->Int:=Acq (Pd l) (Su l) a b d
abbrev oc (l:List Int) (a b d:Int) (i:Nat):Int:=Rr l a b d i*d^(6-l.length)
abbrev on (l:List Int) (a b d:Int):Nat:=Du (oc l a b d) (Du (Rr l a b d) (Su l))
theorem iA {l:List Int} (h:∀i,Cj (l.getD i 0)) (hn:l.length<=6) {a b d:Int} (ha:Cj a) (hb:Cj b) (hd:Cj d) (i:Nat):Bd 500 (Rr l a b d i):=by
 have:Su l<=l.length:=Ii (Pd l) l.length
 exact(kE h ha hb hd _ i).mono (by omega)
theorem eP {l:List Int} (h:∀i,Cj (l.getD i 0)) (hn:l.length<=6) {a b d:Int} (ha:Cj a) (hb:Cj b) (hd:Cj d) (i:Nat):Bd 1000 (oc l a b d i):=
 ((iA h hn ha hb hd i).mul ((Bd.int hd.1 hd.2).pow (6-l.length))).mono (by omega)
theorem eR (l:List Int) (a b d:Int) (hn:l.length<=6):on l a b d<=6:=Nat.le_trans (Ii _ _) (Nat.le_trans (Ii _ _) (Nat.le_trans (Ii _ _) hn))
abbrev Ge (l:List Int) (a b d:Int):AV:=Bf (on l a b d) (oc l a b d)
theorem jI (s:Sg) (a b d:Int) (hs:Nz s) (hx0:0<s.x.length) (hx6:s.x.length<=6) (hy0:0<s.y.length) (hy6:s.y.length<=6) (hz0:0<s.z.length) (hz6:s.z.length<=6) (ha:Cj a) (hb:Cj b) (hd:Cj d) (hdp:0<d):AF Tryz.prog 77 [Bs s,.int a,.int b,.int d] (.agg [Ge s.x a b d,Ge s.y a b d,Ge s.z a b d]):=by
 have hlx:Su s.x<=s.x.length:=Ii (Pd s.x) s.x.length
 have hly:Su s.y<=s.y.length:=Ii (Pd s.y) s.y.length
 have hlz:Su s.z<=s.z.length:=Ii (Pd s.z) s.z.length
 refine Dl ⟨[(0,Bs s),(1,.int a),(2,.int b),(3,.int d)],[],0,49⟩ func77 rfl 49 ntmps77 (by kernel_rfl) (by kernel_rfl) λB D0 hA0=>?_
 refine Bu 2 [1,2,3,4,8] ?_
 refine Al (Ab ?_)
 refine Ae 1 ?_
 refine Fg (pT s) ?_
 refine Ae 1 ?_
 refine As [1,2,3,8,14,15] ?_
 refine Bb (Ou 4 ?_)
 refine Ab (qb true ?_)
 refine As [1,2,3,8,14,15,16] ?_
 refine Al (Ca ?_)
 refine Aw (Al ?_)
 refine Bb (Ab ?_)
 refine Ae 1 ?_
 refine Bl (Bc s.x) (Gf 151 (.tmp 14) (.tmp 15) underlying151 1 sizeOf65 0 false isAgg65 [Bc s.x,Bc s.y,Bc s.z] 0 (Bc s.x)) ?_
 refine Ae 2 ?_
 refine As [1,2,3,8,9,10,14,15] ?_
 refine Ab (Ae 1 ?_)
 refine Fg (Wn s.x hx0 (by omega) hs.x) ?_
 refine Ae 5 ?_
 refine As [1,2,3,8,9,10,11,14,15] ?_
 refine Ab (Ae 2 ?_)
 refine Fg (Hh a ha.1 ha.2) ?_
 refine Ae 1 ?_
 refine Fg (Hh b hb.1 hb.2) ?_
 refine Ae 1 ?_
 refine Fg (Hh d hd.1 hd.2) ?_
 refine Bl (.tup [Bf (Du (Rr s.x a b d) (Su s.x)) (Rr s.x a b d),.int 0]) (Br 98 #[.tmp 25,.tmp 27,.tmp 29,.tmp 31] #[141,96,96,96] [Bf (Su s.x) (Pd s.x),.lit (Ai a),.lit (Ai b),.lit (Ai d)] (.tup [Bf (Du (Rr s.x a b d) (Su s.x)) (Rr s.x a b d),.int 0]) (Tu (Su s.x) (Pd s.x) a b d (by omega) hs.x (Jp _ _) ha hb hd hdp)) ?_
 refine Ae 4 ?_
 refine As [1,2,3,8,9,10,11,14,15] ?_
 refine Bi (Ae 4 ?_)
 refine Bl (.int (s.x.length:Int)) (Dg (.tmp 39) 65 #[65] underlying65 s.x.length (.inl ⟨1,(λi0=> .int ((s.x).getD i0 0)),by kernel_rfl⟩)) ?_
 refine qw ((6:Int)-(s.x.length:Int)) ((6-s.x.length:Nat):Int) ?_
 refine Fg (Hc d (6-s.x.length) hd.1 hd.2 (by omega) (λj hj=>Fl hd (by omega))) ?_
 refine Bl (.tup [Bf (on s.x a b d) (oc s.x a b d),.int 0]) (Br 99 #[.tmp 37,.tmp 42] #[141,96] [Bf (Du (Rr s.x a b d) (Su s.x)) (Rr s.x a b d),.lit (Ai (d^(6-s.x.length)))] (.tup [Bf (on s.x a b d) (oc s.x a b d),.int 0]) (Zl (Du (Rr s.x a b d) (Su s.x)) (Rr s.x a b d) (d^(6-s.x.length)) (by have:=Ii (Rr s.x a b d) (Su s.x);omega) (λi _=>(iA hs.x hx6 ha hb hd i).fit (by omega)) (Jp _ _) (Fl hd (by omega)) (λi _=>(eP hs.x hx6 ha hb hd i).fit (by omega)))) ?_
 refine Ae 3 ?_
 refine Bl (.ptr 1 0) (Df 142 (.tmp 8) (.tmp 36) underlying142 1 0 1 0 0 sizeOf141) ?_
 refine Ae 1 ?_
 refine Bx [1,2,3,8,14,15] ?_
 refine Bi (qi 1 ?_)
 refine Ae 1 ?_
 refine Bx [1,2,3,8,14,15] ?_
 refine Ab (qb true ?_)
 refine As [1,2,3,8,14,15,16] ?_
 refine Al (Ca ?_)
 refine Aw (Al ?_)
 refine Bb (Ab ?_)
 refine Ae 1 ?_
 refine Bl (Bc s.y) (Gf 151 (.tmp 14) (.tmp 15) underlying151 1 sizeOf65 1 false isAgg65 [Bc s.x,Bc s.y,Bc s.z] 1 (Bc s.y)) ?_
 refine Ae 2 ?_
 refine As [1,2,3,8,9,10,14,15] ?_
 refine Ab (Ae 1 ?_)
 refine Fg (Wn s.y hy0 (by omega) hs.y) ?_
 refine Ae 5 ?_
 refine As [1,2,3,8,9,10,11,14,15] ?_
 refine Ab (Ae 2 ?_)
 refine Fg (Hh a ha.1 ha.2) ?_
 refine Ae 1 ?_
 refine Fg (Hh b hb.1 hb.2) ?_
 refine Ae 1 ?_
 refine Fg (Hh d hd.1 hd.2) ?_
 refine Bl (.tup [Bf (Du (Rr s.y a b d) (Su s.y)) (Rr s.y a b d),.int 0]) (Br 98 #[.tmp 25,.tmp 27,.tmp 29,.tmp 31] #[141,96,96,96] [Bf (Su s.y) (Pd s.y),.lit (Ai a),.lit (Ai b),.lit (Ai d)] (.tup [Bf (Du (Rr s.y a b d) (Su s.y)) (Rr s.y a b d),.int 0]) (Tu (Su s.y) (Pd s.y) a b d (by omega) hs.y (Jp _ _) ha hb hd hdp)) ?_
 refine Ae 4 ?_
 refine As [1,2,3,8,9,10,11,14,15] ?_
 refine Bi (Ae 4 ?_)
 refine Bl (.int (s.y.length:Int)) (Dg (.tmp 39) 65 #[65] underlying65 s.y.length (.inl ⟨1,(λi0=> .int ((s.y).getD i0 0)),by kernel_rfl⟩)) ?_
 refine qw ((6:Int)-(s.y.length:Int)) ((6-s.y.length:Nat):Int) ?_
 refine Fg (Hc d (6-s.y.length) hd.1 hd.2 (by omega) (λj hj=>Fl hd (by omega))) ?_
 refine Bl (.tup [Bf (on s.y a b d) (oc s.y a b d),.int 0]) (Br 99 #[.tmp 37,.tmp 42] #[141,96] [Bf (Du (Rr s.y a b d) (Su s.y)) (Rr s.y a b d),.lit (Ai (d^(6-s.y.length)))] (.tup [Bf (on s.y a b d) (oc s.y a b d),.int 0]) (Zl (Du (Rr s.y a b d) (Su s.y)) (Rr s.y a b d) (d^(6-s.y.length)) (by have:=Ii (Rr s.y a b d) (Su s.y);omega) (λi _=>(iA hs.y hy6 ha hb hd i).fit (by omega)) (Jp _ _) (Fl hd (by omega)) (λi _=>(eP hs.y hy6 ha hb hd i).fit (by omega)))) ?_
 refine Ae 3 ?_
 refine Bl (.ptr 1 1) (Df 142 (.tmp 8) (.tmp 36) underlying142 1 0 1 1 1 sizeOf141) ?_
 refine Ae 1 ?_
 refine Bx [1,2,3,8,14,15] ?_
 refine Bi (qi 2 ?_)
 refine Ae 1 ?_
 refine Bx [1,2,3,8,14,15] ?_
 refine Ab (qb true ?_)
 refine As [1,2,3,8,14,15,16] ?_
 refine Al (Ca ?_)
 refine Aw (Al ?_)
 refine Bb (Ab ?_)
 refine Ae 1 ?_
 refine Bl (Bc s.z) (Gf 151 (.tmp 14) (.tmp 15) underlying151 1 sizeOf65 2 false isAgg65 [Bc s.x,Bc s.y,Bc s.z] 2 (Bc s.z)) ?_
 refine Ae 2 ?_
 refine As [1,2,3,8,9,10,14,15] ?_
 refine Ab (Ae 1 ?_)
 refine Fg (Wn s.z hz0 (by omega) hs.z) ?_
 refine Ae 5 ?_
 refine As [1,2,3,8,9,10,11,14,15] ?_
 refine Ab (Ae 2 ?_)
 refine Fg (Hh a ha.1 ha.2) ?_
 refine Ae 1 ?_
 refine Fg (Hh b hb.1 hb.2) ?_
 refine Ae 1 ?_
 refine Fg (Hh d hd.1 hd.2) ?_
 refine Bl (.tup [Bf (Du (Rr s.z a b d) (Su s.z)) (Rr s.z a b d),.int 0]) (Br 98 #[.tmp 25,.tmp 27,.tmp 29,.tmp 31] #[141,96,96,96] [Bf (Su s.z) (Pd s.z),.lit (Ai a),.lit (Ai b),.lit (Ai d)] (.tup [Bf (Du (Rr s.z a b d) (Su s.z)) (Rr s.z a b d),.int 0]) (Tu (Su s.z) (Pd s.z) a b d (by omega) hs.z (Jp _ _) ha hb hd hdp)) ?_
 refine Ae 4 ?_
 refine As [1,2,3,8,9,10,11,14,15] ?_
 refine Bi (Ae 4 ?_)
 refine Bl (.int (s.z.length:Int)) (Dg (.tmp 39) 65 #[65] underlying65 s.z.length (.inl ⟨1,(λi0=> .int ((s.z).getD i0 0)),by kernel_rfl⟩)) ?_
 refine qw ((6:Int)-(s.z.length:Int)) ((6-s.z.length:Nat):Int) ?_
 refine Fg (Hc d (6-s.z.length) hd.1 hd.2 (by omega) (λj hj=>Fl hd (by omega))) ?_
 refine Bl (.tup [Bf (on s.z a b d) (oc s.z a b d),.int 0]) (Br 99 #[.tmp 37,.tmp 42] #[141,96] [Bf (Du (Rr s.z a b d) (Su s.z)) (Rr s.z a b d),.lit (Ai (d^(6-s.z.length)))] (.tup [Bf (on s.z a b d) (oc s.z a b d),.int 0]) (Zl (Du (Rr s.z a b d) (Su s.z)) (Rr s.z a b d) (d^(6-s.z.length)) (by have:=Ii (Rr s.z a b d) (Su s.z);omega) (λi _=>(iA hs.z hz6 ha hb hd i).fit (by omega)) (Jp _ _) (Fl hd (by omega)) (λi _=>(eP hs.z hz6 ha hb hd i).fit (by omega)))) ?_
 refine Ae 3 ?_
 refine Bl (.ptr 1 2) (Df 142 (.tmp 8) (.tmp 36) underlying142 1 0 1 2 2 sizeOf141) ?_
 refine Ae 1 ?_
 refine Bx [1,2,3,8,14,15] ?_
 refine Bi (qi 3 ?_)
 refine Ae 1 ?_
 refine Bx [1,2,3,8,14,15] ?_
 refine Ab (qb false ?_)
 refine As [1,2,3,8,14,15,16] ?_
 refine Al (Bq ?_)
 refine Co (Bu 2 [8] ?_)
 refine Be ?_
 exact⟨.inl rfl,(Bv results77 (Gs (x:= .agg [Bf (on s.x a b d) (oc s.x a b d),Bf (on s.y a b d) (oc s.y a b d),Bf (on s.z a b d) (oc s.z a b d)]) 1 isAgg142 3 sizeOf142 0 [Bf (on s.x a b d) (oc s.x a b d),Bf (on s.y a b d) (oc s.y a b d),Bf (on s.z a b d) (oc s.z a b d)] (by kernel_rfl) 142 (by kernel_rfl) (Nat.le_of_ble_eq_true (by kernel_rfl)) (by kernel_rfl) (by kernel_rfl))).cast (by kernel_rfl)⟩
def gF (c:Nat->Int) (g:Int):Nat->Int
 |0=>g
 |k+1=>(Nat.gcd (gF c g k).natAbs (c k).natAbs:Int)
theorem qX {c:Nat->Int} {g:Int} {n:Nat} (hg:Bd 1000 g) (hc:∀i,i<n->Bd 1000 (c i)):∀k,k<=n->Bd 1000 (gF c g k)
 |0,_=>hg
 |k+1,h=>(qX hg hc k (by omega)).gcd (hc k (by omega))
theorem gV {c:Nat->Int} {g:Int} (hg:0<g):∀k,0<gF c g k
 |0=>hg
 |k+1=>by
  have h1:=gV (c:=c) hg k
  have:0<Nat.gcd (gF c g k).natAbs (c k).natAbs:=Nat.gcd_pos_of_pos_left _ (by omega)
  rw[gF];omega
def iR (z:Int):Int:=if -9223372036854775808<=z/\z<=9223372036854775807 then z else 0
def iE (z:Int):Int:=if -9223372036854775808<=z/\z<=9223372036854775807 then 0 else 3
theorem AbZ (z:Int):Cj (iR z):=by
 unfold iR
 split
 assumption
 exact Gw
theorem AcV {z:Int} (h:Cj z):iR z=z:=if_pos h
theorem Mk (z:Int) (h:Gh z):AF Tryz.prog 47 [WA z] (.lit (.tuple #[.int .i64 (iR z),.int .i64 (iE z)])):=Jh (vs:=[_]) λw=>by
 unfold iR iE
 by_cases h0: -9223372036854775808<=z/\z<=9223372036854775807
 rw[if_pos h0,if_pos h0];exact mN z w h0.1 h0.2
 rw[if_neg h0,if_neg h0];exact mM z w h h0
theorem jN (x y:Int) (hx:Gh x) (hy:Gh y):AF Tryz.prog 96 [WA x,WA y] (.int (x-y).sign):=Jh (vs:=[_,_]) λw=>Wh x y w hx hy
def Ha (n:Nat) (c:Nat->Int) (g:Int) (i:Nat):Int:=if i<n then iR (c i/g) else 0
def gM (nx ny nz:Nat) (cx cy cz:Nat->Int) (o:Int):Int:=gF cz (gF cy (gF cx o nx) ny) nz
abbrev sB:Eh:= .box 67 [.int 0,.int 0,.int 0,.lit (.slice none 0 0),.lit (.slice none 0 0),.lit (.slice none 0 0)]
def Xz (f t:Int) (nx ny nz:Nat) (cx cy cz:Nat->Int) (o:Int):AV:=if (0:Int)<(o/gM nx ny nz cx cy cz o-4294967296).sign then .lit (.tuple #[.agg #[.int .i64 f,.int .i64 t,.int .i64 0,.slice none 0 0,.slice none 0 0,.slice none 0 0],.bool false]) else .tup [.agg [.int f,.int t,.int (iR (o/gM nx ny nz cx cy cz o)),.sl 1 (max nx 1) (λxi=> .int (Ha nx cx (gM nx ny nz cx cy cz o) xi)),.sl 1 (max ny 1) (λxi=> .int (Ha ny cy (gM nx ny nz cx cy cz o) xi)),.sl 1 (max nz 1) (λxi=> .int (Ha nz cz (gM nx ny nz cx cy cz o) xi))],.bool true]
theorem AaB (f t:Int) (nx ny nz:Nat) (cx cy cz:Nat->Int) (o:Int) (hnx:nx<=6) (hny:ny<=6) (hnz:nz<=6) (hx:∀i,i<nx->Bd 1000 (cx i)) (hy:∀i,i<ny->Bd 1000 (cy i)) (hz:∀i,i<nz->Bd 1000 (cz i)) (bo:Bd 1000 o) (ho:0<o):AF Tryz.prog 76 [.int f,.int t,.agg [Bf nx cx,Bf ny cy,Bf nz cz],WA o] (Xz f t nx ny nz cx cy cz o):=by
 have b0:=bo
 have bx:=qX b0 hx
 have b1:=bx nx (Nat.le_refl _)
 have bY:=qX b1 hy
 have b2:=bY ny (Nat.le_refl _)
 have bz:=qX b2 hz
 have bG:Bd 1000 (gM nx ny nz cx cy cz o):=bz nz (Nat.le_refl _)
 have pG:0<gM nx ny nz cx cy cz o:=gV (gV (gV ho nx) ny) nz
 have hk:=Hh 4294967296 (by decide) (by decide)
 have h32:Gh 4294967296:=Jn (by decide) (by decide)
 refine Dl ⟨[(0,.int f),(1,.int t),(2,.agg [Bf nx cx,Bf ny cy,Bf nz cz]),(3,.lit (Ai o))],[],0,98⟩ func76 rfl 98 ntmps76 (by kernel_rfl) (by kernel_rfl) λB D0 hA0=>?_
 refine Bu 4 [0,1,6,7,8] ?_
 refine Bu 3 [0,1,6,7,8,10] ?_
 refine Al (Bu 2 [0,1,6,7,8,10,24,25] ?_)
 refine Bb (Ou 4 ?_)
 refine Ab (qb true ?_)
 refine As [0,1,6,7,8,10,24,25,26] ?_
 refine Al (Ca ?_)
 refine Aw (Al ?_)
 refine Bb (Ab ?_)
 refine Bl (Bf nx cx) (Gf 142 (.tmp 24) (.tmp 25) underlying142 1 sizeOf141 0 false isAgg141 [Bf nx cx,Bf ny cy,Bf nz cz] 0 (Bf nx cx)) ?_
 refine Ae 1 ?_
 refine As [0,1,6,7,8,10,12,24,25] ?_
 refine Ab (Ae 1 ?_)
 refine Bl (.int (nx:Int)) (Dg (.tmp 28) 141 #[141] underlying141 nx (.inl ⟨2,(λi0=> .lit (Ai (cx i0))),by kernel_rfl⟩)) ?_
 refine Ae 1 ?_
 refine As [0,1,6,7,8,10,24,25,28,29,30] ?_
 refine Bb ?_
 refine Jr (λk=>⟨[(0,.int f),(1,.int t),(6,.ptr 0 0),(7,.ptr 1 0),(8,.ptr 2 0),(10,.ptr 3 0),(24,.agg [Bf nx cx,Bf ny cy,Bf nz cz]),(25,.int 0),(28,Bf nx cx),(29,.int (nx:Int)),(30,.int (k:Int))],[(0,.box 142 [Bf nx cx,Bf ny cy,Bf nz cz]),(1,wB o),(2,sB),(3,wB (gF cx o k))],4,98⟩) nx (by kernel_rfl) ?_ ?_
 intro k hk K hK
 refine Ab (Bl (.bool true) (Dx (v:= .bool (decide ((k:Int)<(nx:Int)))) (v':= .bool true) (congrArg Value.bool (decide_eq_true (by omega))) _) ?_)
 refine As [0,1,6,7,8,10,24,25,28,29,30,31] ?_
 refine Al (Ca ?_)
 refine Aw (Al ?_)
 refine Bb (Ab ?_)
 refine Bl (.elt 2 (λq=>AV.cell (.lit (Ai (cx k))) q)) (Bk 141 (.tmp 28) (.tmp 30) underlying141 2 nx k (λi0=> .lit (Ai (cx i0))) (k:Int) sizeOf96) ?_
 refine Ae 3 ?_
 refine As [0,1,6,7,8,10,14,24,25,28,29,30] ?_
 refine Bi (Ae 2 ?_)
 refine Bl (.lit (Ai (gF cx o (k+1)))) (Br 85 #[.tmp 34,.tmp 35] #[96,96] [.lit (Ai (gF cx o k)),.lit (Ai (cx k))] (.lit (Ai (gF cx o (k+1)))) (Sj _ _ ((bx k (by omega)).fit (by omega)) ((hx k (by omega)).fit (by omega)))) ?_
 refine Ae 1 ?_
 refine Bx [0,1,6,7,8,10,24,25,28,29,30] ?_
 refine Ee [0,1,6,7,8,10,24,25,28,29,30] ⟨[(0,.int f),(1,.int t),(6,.ptr 0 0),(7,.ptr 1 0),(8,.ptr 2 0),(10,.ptr 3 0),(24,.agg [Bf nx cx,Bf ny cy,Bf nz cz]),(25,.int 0),(28,Bf nx cx),(29,.int (nx:Int)),(30,.int (k:Int))],[(0,.box 142 [Bf nx cx,Bf ny cy,Bf nz cz]),(1,wB o),(2,sB),(3,wB (gF cx o (k+1))),(4,wB (cx k))],5,98⟩ ?_
 refine Hg [(0,0),(1,1),(2,2),(3,3)] 4 0 hA0 _ (Av (Av (Av (Av (Av Cx))))) ?_
 refine Bi (qw ((k:Int)+1) ((k+1:Nat):Int) ?_)
 refine Ae 1 ?_
 refine Bx [0,1,6,7,8,10,24,25,28,29,30] ?_
 exact sU hK (by kernel_rfl)
 refine Ab (Bl (.bool false) (Dx (v:= .bool (decide ((nx:Int)<(nx:Int)))) (v':= .bool false) (congrArg Value.bool (decide_eq_false (by omega))) _) ?_)
 refine As [0,1,6,7,8,10,24,25,28,29,30,31] ?_
 refine Al (Bq ?_)
 refine Co (Bi ?_)
 refine qi 1 ?_
 refine Ae 1 ?_
 refine Bx [0,1,6,7,8,10,24,25] ?_
 refine Ab (qb true ?_)
 refine As [0,1,6,7,8,10,24,25,26] ?_
 refine Al (Ca ?_)
 refine Aw (Al ?_)
 refine Bb (Ab ?_)
 refine Bl (Bf ny cy) (Gf 142 (.tmp 24) (.tmp 25) underlying142 1 sizeOf141 1 false isAgg141 [Bf nx cx,Bf ny cy,Bf nz cz] 1 (Bf ny cy)) ?_
 refine Ae 1 ?_
 refine As [0,1,6,7,8,10,12,24,25] ?_
 refine Ab (Ae 1 ?_)
 refine Bl (.int (ny:Int)) (Dg (.tmp 28) 141 #[141] underlying141 ny (.inl ⟨2,(λi0=> .lit (Ai (cy i0))),by kernel_rfl⟩)) ?_
 refine Ae 1 ?_
 refine As [0,1,6,7,8,10,24,25,28,29,30] ?_
 refine Bb ?_
 refine Jr (λk=>⟨[(0,.int f),(1,.int t),(6,.ptr 0 0),(7,.ptr 1 0),(8,.ptr 2 0),(10,.ptr 3 0),(24,.agg [Bf nx cx,Bf ny cy,Bf nz cz]),(25,.int 1),(28,Bf ny cy),(29,.int (ny:Int)),(30,.int (k:Int))],[(0,.box 142 [Bf nx cx,Bf ny cy,Bf nz cz]),(1,wB o),(2,sB),(3,wB (gF cy (gF cx o nx) k))],4,98⟩) ny (by kernel_rfl) ?_ ?_
 intro k hk K hK
 refine Ab (Bl (.bool true) (Dx (v:= .bool (decide ((k:Int)<(ny:Int)))) (v':= .bool true) (congrArg Value.bool (decide_eq_true (by omega))) _) ?_)
 refine As [0,1,6,7,8,10,24,25,28,29,30,31] ?_
 refine Al (Ca ?_)
 refine Aw (Al ?_)
 refine Bb (Ab ?_)
 refine Bl (.elt 2 (λq=>AV.cell (.lit (Ai (cy k))) q)) (Bk 141 (.tmp 28) (.tmp 30) underlying141 2 ny k (λi0=> .lit (Ai (cy i0))) (k:Int) sizeOf96) ?_
 refine Ae 3 ?_
 refine As [0,1,6,7,8,10,14,24,25,28,29,30] ?_
 refine Bi (Ae 2 ?_)
 refine Bl (.lit (Ai (gF cy (gF cx o nx) (k+1)))) (Br 85 #[.tmp 34,.tmp 35] #[96,96] [.lit (Ai (gF cy (gF cx o nx) k)),.lit (Ai (cy k))] (.lit (Ai (gF cy (gF cx o nx) (k+1)))) (Sj _ _ ((bY k (by omega)).fit (by omega)) ((hy k (by omega)).fit (by omega)))) ?_
 refine Ae 1 ?_
 refine Bx [0,1,6,7,8,10,24,25,28,29,30] ?_
 refine Ee [0,1,6,7,8,10,24,25,28,29,30] ⟨[(0,.int f),(1,.int t),(6,.ptr 0 0),(7,.ptr 1 0),(8,.ptr 2 0),(10,.ptr 3 0),(24,.agg [Bf nx cx,Bf ny cy,Bf nz cz]),(25,.int 1),(28,Bf ny cy),(29,.int (ny:Int)),(30,.int (k:Int))],[(0,.box 142 [Bf nx cx,Bf ny cy,Bf nz cz]),(1,wB o),(2,sB),(3,wB (gF cy (gF cx o nx) (k+1))),(4,wB (cy k))],5,98⟩ ?_
 refine Hg [(0,0),(1,1),(2,2),(3,3)] 4 0 hA0 _ (Av (Av (Av (Av (Av Cx))))) ?_
 refine Bi (qw ((k:Int)+1) ((k+1:Nat):Int) ?_)
 refine Ae 1 ?_
 refine Bx [0,1,6,7,8,10,24,25,28,29,30] ?_
 exact sU hK (by kernel_rfl)
 refine Ab (Bl (.bool false) (Dx (v:= .bool (decide ((ny:Int)<(ny:Int)))) (v':= .bool false) (congrArg Value.bool (decide_eq_false (by omega))) _) ?_)
 refine As [0,1,6,7,8,10,24,25,28,29,30,31] ?_
 refine Al (Bq ?_)
 refine Co (Bi ?_)
 refine qi 2 ?_
 refine Ae 1 ?_
 refine Bx [0,1,6,7,8,10,24,25] ?_
 refine Ab (qb true ?_)
 refine As [0,1,6,7,8,10,24,25,26] ?_
 refine Al (Ca ?_)
 refine Aw (Al ?_)
 refine Bb (Ab ?_)
 refine Bl (Bf nz cz) (Gf 142 (.tmp 24) (.tmp 25) underlying142 1 sizeOf141 2 false isAgg141 [Bf nx cx,Bf ny cy,Bf nz cz] 2 (Bf nz cz)) ?_
 refine Ae 1 ?_
 refine As [0,1,6,7,8,10,12,24,25] ?_
 refine Ab (Ae 1 ?_)
 refine Bl (.int (nz:Int)) (Dg (.tmp 28) 141 #[141] underlying141 nz (.inl ⟨2,(λi0=> .lit (Ai (cz i0))),by kernel_rfl⟩)) ?_
 refine Ae 1 ?_
 refine As [0,1,6,7,8,10,24,25,28,29,30] ?_
 refine Bb ?_
 refine Jr (λk=>⟨[(0,.int f),(1,.int t),(6,.ptr 0 0),(7,.ptr 1 0),(8,.ptr 2 0),(10,.ptr 3 0),(24,.agg [Bf nx cx,Bf ny cy,Bf nz cz]),(25,.int 2),(28,Bf nz cz),(29,.int (nz:Int)),(30,.int (k:Int))],[(0,.box 142 [Bf nx cx,Bf ny cy,Bf nz cz]),(1,wB o),(2,sB),(3,wB (gF cz (gF cy (gF cx o nx) ny) k))],4,98⟩) nz (by kernel_rfl) ?_ ?_
 intro k hk K hK
 refine Ab (Bl (.bool true) (Dx (v:= .bool (decide ((k:Int)<(nz:Int)))) (v':= .bool true) (congrArg Value.bool (decide_eq_true (by omega))) _) ?_)
 refine As [0,1,6,7,8,10,24,25,28,29,30,31] ?_
 refine Al (Ca ?_)
 refine Aw (Al ?_)
 refine Bb (Ab ?_)
 refine Bl (.elt 2 (λq=>AV.cell (.lit (Ai (cz k))) q)) (Bk 141 (.tmp 28) (.tmp 30) underlying141 2 nz k (λi0=> .lit (Ai (cz i0))) (k:Int) sizeOf96) ?_
 refine Ae 3 ?_
 refine As [0,1,6,7,8,10,14,24,25,28,29,30] ?_
 refine Bi (Ae 2 ?_)
 refine Bl (.lit (Ai (gF cz (gF cy (gF cx o nx) ny) (k+1)))) (Br 85 #[.tmp 34,.tmp 35] #[96,96] [.lit (Ai (gF cz (gF cy (gF cx o nx) ny) k)),.lit (Ai (cz k))] (.lit (Ai (gF cz (gF cy (gF cx o nx) ny) (k+1)))) (Sj _ _ ((bz k (by omega)).fit (by omega)) ((hz k (by omega)).fit (by omega)))) ?_
 refine Ae 1 ?_
 refine Bx [0,1,6,7,8,10,24,25,28,29,30] ?_
 refine Ee [0,1,6,7,8,10,24,25,28,29,30] ⟨[(0,.int f),(1,.int t),(6,.ptr 0 0),(7,.ptr 1 0),(8,.ptr 2 0),(10,.ptr 3 0),(24,.agg [Bf nx cx,Bf ny cy,Bf nz cz]),(25,.int 2),(28,Bf nz cz),(29,.int (nz:Int)),(30,.int (k:Int))],[(0,.box 142 [Bf nx cx,Bf ny cy,Bf nz cz]),(1,wB o),(2,sB),(3,wB (gF cz (gF cy (gF cx o nx) ny) (k+1))),(4,wB (cz k))],5,98⟩ ?_
 refine Hg [(0,0),(1,1),(2,2),(3,3)] 4 0 hA0 _ (Av (Av (Av (Av (Av Cx))))) ?_
 refine Bi (qw ((k:Int)+1) ((k+1:Nat):Int) ?_)
 refine Ae 1 ?_
 refine Bx [0,1,6,7,8,10,24,25,28,29,30] ?_
 exact sU hK (by kernel_rfl)
 refine Ab (Bl (.bool false) (Dx (v:= .bool (decide ((nz:Int)<(nz:Int)))) (v':= .bool false) (congrArg Value.bool (decide_eq_false (by omega))) _) ?_)
 refine As [0,1,6,7,8,10,24,25,28,29,30,31] ?_
 refine Al (Bq ?_)
 refine Co (Bi ?_)
 refine qi 3 ?_
 refine Ae 1 ?_
 refine Bx [0,1,6,7,8,10,24,25] ?_
 refine Ab (qb false ?_)
 refine As [0,1,6,7,8,10,24,25,26] ?_
 refine Al (Bq ?_)
 refine Co (Ab ?_)
 refine Ae 2 ?_
 refine Bl (.lit (.agg #[.int .i64 f,.int .i64 t,.int .i64 0,.slice none 0 0,.slice none 0 0,.slice none 0 0])) (Cd 67 #[(0,(.tmp 39)),(1,(.tmp 40))] _ zeroValue67 underlying67 #[(0,1),(1,1),(2,1),(3,1),(4,1),(5,1)] [.int f,.int t,.int 0,.lit (.slice none 0 0),.lit (.slice none 0 0),.lit (.slice none 0 0)]) ?_
 refine Ae 2 ?_
 refine As [6,7,8,10,15] ?_
 refine Ab (Ae 2 ?_)
 refine Bl (.lit (Ai (o/(gM nx ny nz cx cy cz o)))) (Br 48 #[.tmp 42,.tmp 43] #[96,96] [.lit (Ai o),.lit (Ai (gM nx ny nz cx cy cz o))] (.lit (Ai (o/(gM nx ny nz cx cy cz o)))) (Ip _ _ (bo.fit (by omega)) (bG.fit (by omega)) (by omega))) ?_
 refine Ae 2 ?_
 refine As [6,8,10,15,16] ?_
 refine Al ?_
 refine Dk [(1,.lit (Ai 4294967296),.none),(2,.int ((o/gM nx ny nz cx cy cz o-4294967296).sign),.none),(3,.bool (decide ((0:Int)<(o/gM nx ny nz cx cy cz o-4294967296).sign)),.none)] [6,8,10,15,16,48] 6 ⟨?_,?_,?_,trivial⟩ ?_
 exact Oi hk
 exact Bn (Br 96 #[.tmp 45,.tmp 46] #[96,96] [.lit (Ai (o/(gM nx ny nz cx cy cz o))),.lit (Ai 4294967296)] (.int ((o/gM nx ny nz cx cy cz o-4294967296).sign)) (jN _ _ ((bo.div _).fit (by omega)) h32))
 exact uZ
 refine Ao (decide ((0:Int)<(o/gM nx ny nz cx cy cz o-4294967296).sign)) (λhx1=>?_) (λhx1=>?_)
 have hx1d:=of_decide_eq_true hx1
 refine qT hx1 ?_
 refine Bu 3 [8,9] ?_
 refine Be ?_
 exact⟨.inl rfl,(Cv results76 (Gs (x:= .lit (.agg #[.int .i64 f,.int .i64 t,.int .i64 0,.slice none 0 0,.slice none 0 0,.slice none 0 0])) 2 isAgg67 6 sizeOf67 0 [.int f,.int t,.int 0,.lit (.slice none 0 0),.lit (.slice none 0 0),.lit (.slice none 0 0)] (by kernel_rfl) 67 (by kernel_rfl) (Nat.le_of_ble_eq_true (by kernel_rfl)) (by kernel_rfl) (by kernel_rfl)) (Ak (x:= .bool false) (by kernel_rfl) (by kernel_rfl))).cast (show (.lit _:AV)=_ by unfold Xz;rw[if_pos hx1d])⟩
 have hx1d:=of_decide_eq_false hx1
 refine qF hx1 ?_
 refine Aw (Ab ?_)
 refine Ae 1 ?_
 refine Bl (.lit (.tuple #[.int .i64 (iR (o/(gM nx ny nz cx cy cz o))),.int .i64 (iE (o/(gM nx ny nz cx cy cz o)))])) (Br 47 #[.tmp 51] #[96] [.lit (Ai (o/(gM nx ny nz cx cy cz o)))] (.lit (.tuple #[.int .i64 (iR (o/(gM nx ny nz cx cy cz o))),.int .i64 (iE (o/(gM nx ny nz cx cy cz o)))])) (Mk _ ((bo.div _).fit (by omega)))) ?_
 refine Ae 1 ?_
 refine qi (iR (o/(gM nx ny nz cx cy cz o))) ?_
 refine qi (iE (o/(gM nx ny nz cx cy cz o))) ?_
 refine Ae 2 ?_
 refine As [6,8,10,15] ?_
 refine Al (Ab ?_)
 refine Ae 3 ?_
 refine Bl (.agg [.ptr 4 3,.ptr 4 4,.ptr 4 5]) (Pq 166 #[(0,(.tmp 56)),(1,(.tmp 57)),(2,(.tmp 58))] _ zeroValue166 underlying166 1 sizeOf165 [.ptr 4 3,.ptr 4 4,.ptr 4 5]) ?_
 refine Ae 1 ?_
 refine As [6,8,10,15,59,60] ?_
 refine Bb (Ou 4 ?_)
 refine Ab (qb true ?_)
 refine As [6,8,10,15,59,60,61] ?_
 refine Al (Ca ?_)
 refine Aw ?_
 refine fC ⟨[(6,.ptr 0 0),(8,.ptr 2 0),(10,.ptr 3 0),(15,.ptr 4 0),(59,.agg [.ptr 4 3,.ptr 4 4,.ptr 4 5]),(60,.int 0)],[(0,.box 142 [Bf nx cx,Bf ny cy,Bf nz cz]),(1,wB o),(2,sB),(3,wB (gM nx ny nz cx cy cz o)),(4,.box 67 [.int f,.int t,.int (iR (o/(gM nx ny nz cx cy cz o))),.sl 1 (max nx 1) (λxi=> .int (Ha nx cx (gM nx ny nz cx cy cz o) xi)),.lit (.slice none 0 0),.lit (.slice none 0 0)]),(5,wB (o/(gM nx ny nz cx cy cz o)))],30,98⟩ ?_ ?_
 refine Bi (qi 1 ?_)
 refine Ae 1 ?_
 refine Bx [6,8,10,15,59,60] ?_
 refine Ab (qb true ?_)
 refine As [6,8,10,15,59,60,61] ?_
 refine Al (Ca ?_)
 refine Aw ?_
 refine fC ⟨[(6,.ptr 0 0),(8,.ptr 2 0),(10,.ptr 3 0),(15,.ptr 4 0),(59,.agg [.ptr 4 3,.ptr 4 4,.ptr 4 5]),(60,.int 1)],[(0,.box 142 [Bf nx cx,Bf ny cy,Bf nz cz]),(1,wB o),(2,sB),(3,wB (gM nx ny nz cx cy cz o)),(4,.box 67 [.int f,.int t,.int (iR (o/(gM nx ny nz cx cy cz o))),.sl 1 (max nx 1) (λxi=> .int (Ha nx cx (gM nx ny nz cx cy cz o) xi)),.sl 1 (max ny 1) (λxi=> .int (Ha ny cy (gM nx ny nz cx cy cz o) xi)),.lit (.slice none 0 0)]),(5,wB (o/(gM nx ny nz cx cy cz o)))],32,98⟩ ?_ ?_
 refine Bi (qi 2 ?_)
 refine Ae 1 ?_
 refine Bx [6,8,10,15,59,60] ?_
 refine Ab (qb true ?_)
 refine As [6,8,10,15,59,60,61] ?_
 refine Al (Ca ?_)
 refine Aw ?_
 refine fC ⟨[(6,.ptr 0 0),(8,.ptr 2 0),(10,.ptr 3 0),(15,.ptr 4 0),(59,.agg [.ptr 4 3,.ptr 4 4,.ptr 4 5]),(60,.int 2)],[(0,.box 142 [Bf nx cx,Bf ny cy,Bf nz cz]),(1,wB o),(2,sB),(3,wB (gM nx ny nz cx cy cz o)),(4,.box 67 [.int f,.int t,.int (iR (o/(gM nx ny nz cx cy cz o))),.sl 1 (max nx 1) (λxi=> .int (Ha nx cx (gM nx ny nz cx cy cz o) xi)),.sl 1 (max ny 1) (λxi=> .int (Ha ny cy (gM nx ny nz cx cy cz o) xi)),.sl 1 (max nz 1) (λxi=> .int (Ha nz cz (gM nx ny nz cx cy cz o) xi))]),(5,wB (o/(gM nx ny nz cx cy cz o)))],34,98⟩ ?_ ?_
 refine Bi (qi 3 ?_)
 refine Ae 1 ?_
 refine Bx [6,8,10,15,59,60] ?_
 refine Ab (qb false ?_)
 refine As [6,8,10,15,59,60,61] ?_
 refine Al (Bq ?_)
 refine Co (Bu 3 [8,9] ?_)
 refine Be ?_
 exact⟨.inl rfl,(Cv results76 (Gs (x:= .agg [.int f,.int t,.int (iR (o/(gM nx ny nz cx cy cz o))),.sl 1 (max nx 1) (λxi=> .int (Ha nx cx (gM nx ny nz cx cy cz o) xi)),.sl 1 (max ny 1) (λxi=> .int (Ha ny cy (gM nx ny nz cx cy cz o) xi)),.sl 1 (max nz 1) (λxi=> .int (Ha nz cz (gM nx ny nz cx cy cz o) xi))]) 2 isAgg67 6 sizeOf67 0 [.int f,.int t,.int (iR (o/(gM nx ny nz cx cy cz o))),.sl 1 (max nx 1) (λxi=> .int (Ha nx cx (gM nx ny nz cx cy cz o) xi)),.sl 1 (max ny 1) (λxi=> .int (Ha ny cy (gM nx ny nz cx cy cz o) xi)),.sl 1 (max nz 1) (λxi=> .int (Ha nz cz (gM nx ny nz cx cy cz o) xi))] (by kernel_rfl) 67 (by kernel_rfl) (Nat.le_of_ble_eq_true (by kernel_rfl)) (by kernel_rfl) (by kernel_rfl)) (Ak (x:= .bool true) (by kernel_rfl) (by kernel_rfl))).cast (show (.tup [.agg [_,_,_,_,_,_],_]:AV)=_ by unfold Xz;rw[if_neg hx1d])⟩
 refine Bb (Ab ?_)
 refine Ae 1 ?_
 refine Bl (.ptr 4 5) (Gf 166 (.tmp 59) (.tmp 60) underlying166 1 sizeOf165 2 false isAgg165 [.ptr 4 3,.ptr 4 4,.ptr 4 5] 2 (.ptr 4 5)) ?_
 refine Ae 2 ?_
 refine As [6,8,10,15,17,18,59,60] ?_
 refine Al (Ab ?_)
 refine Ae 1 ?_
 refine Bl (.ptr 0 2) (Df 142 (.tmp 6) (.tmp 64) underlying142 0 0 1 2 2 sizeOf141) ?_
 refine Ae 1 ?_
 refine Bl (.int (nz:Int)) (Dg (.tmp 66) 141 #[141] underlying141 nz (.inl ⟨2,(λi0=> .lit (Ai (cz i0))),by kernel_rfl⟩)) ?_
 refine Ae 1 ?_
 refine As [6,8,10,15,18,59,60,66,67,68] ?_
 refine Bb (Cn (λm s=>∃k,k<=nz/\m=nz-k/\True/\((k=0/\s=⟨[(6,.ptr 0 0),(8,.ptr 2 0),(10,.ptr 3 0),(15,.ptr 4 0),(18,.ptr 4 5),(59,.agg [.ptr 4 3,.ptr 4 4,.ptr 4 5]),(60,.int 2),(66,Bf nz cz),(67,.int (nz:Int)),(68,.int ((0:Nat):Int))],[(0,.box 142 [Bf nx cx,Bf ny cy,Bf nz cz]),(1,wB o),(2,sB),(3,wB (gM nx ny nz cx cy cz o)),(4,.box 67 [.int f,.int t,.int (iR (o/(gM nx ny nz cx cy cz o))),.sl 1 (max nx 1) (λxi=> .int (Ha nx cx (gM nx ny nz cx cy cz o) xi)),.sl 1 (max ny 1) (λxi=> .int (Ha ny cy (gM nx ny nz cx cy cz o) xi)),.lit (.slice none 0 0)]),(5,wB (o/(gM nx ny nz cx cy cz o)))],32,98⟩)\/(0<k/\s=⟨[(6,.ptr 0 0),(8,.ptr 2 0),(10,.ptr 3 0),(15,.ptr 4 0),(18,.ptr 4 5),(59,.agg [.ptr 4 3,.ptr 4 4,.ptr 4 5]),(60,.int 2),(66,Bf nz cz),(67,.int (nz:Int)),(68,.int (k:Int))],[(0,.box 142 [Bf nx cx,Bf ny cy,Bf nz cz]),(1,wB o),(2,sB),(3,wB (gM nx ny nz cx cy cz o)),(4,.box 67 [.int f,.int t,.int (iR (o/(gM nx ny nz cx cy cz o))),.sl 1 (max nx 1) (λxi=> .int (Ha nx cx (gM nx ny nz cx cy cz o) xi)),.sl 1 (max ny 1) (λxi=> .int (Ha ny cy (gM nx ny nz cx cy cz o) xi)),.osl 20 1 k]),(5,wB (o/(gM nx ny nz cx cy cz o))),(20,.vec 3 1 k (λxi=> .int (Ha nz cz (gM nx ny nz cx cy cz o) xi)))],21,98⟩))) nz ⟨0,Nat.zero_le _,rfl,trivial,.inl ⟨rfl,(by kernel_rfl)⟩⟩ ?_)
 rintro _ _ ⟨k,hkn,rfl,hFk,(⟨hk0,rfl⟩|⟨hk0,rfl⟩)⟩
 subst hk0
 refine Ab (qb (decide (((0:Nat):Int)<(nz:Int))) ?_)
 refine As [6,8,10,15,18,59,60,66,67,68,69] ?_
 refine Al ?_
 refine Ao (decide (((0:Nat):Int)<(nz:Int))) (λhx2=>?_) (λhx2=>?_)
 have hx2d:=of_decide_eq_true hx2
 refine qT hx2 ?_
 refine Aw (Al ?_)
 refine Bb (Ab ?_)
 refine Bl (.elt 2 (λq=>AV.cell (.lit (Ai (cz 0))) q)) (Bk 141 (.tmp 66) (.tmp 68) underlying141 2 nz 0 (λi0=> .lit (Ai (cz i0))) ((0:Nat):Int) sizeOf96) ?_
 refine Ae 3 ?_
 refine As [6,8,10,15,18,20,59,60,66,67,68] ?_
 refine Ab (Ae 2 ?_)
 refine Bl (.lit (Ai (cz 0/(gM nx ny nz cx cy cz o)))) (Br 48 #[.tmp 73,.tmp 74] #[96,96] [.lit (Ai (cz 0)),.lit (Ai (gM nx ny nz cx cy cz o))] (.lit (Ai (cz 0/(gM nx ny nz cx cy cz o)))) (Ip _ _ ((hz _ (by omega)).fit (by omega)) (bG.fit (by omega)) (by omega))) ?_
 refine Bl (.lit (.tuple #[.int .i64 (iR (cz 0/(gM nx ny nz cx cy cz o))),.int .i64 (iE (cz 0/(gM nx ny nz cx cy cz o)))])) (Br 47 #[.tmp 75] #[96] [.lit (Ai (cz 0/(gM nx ny nz cx cy cz o)))] (.lit (.tuple #[.int .i64 (iR (cz 0/(gM nx ny nz cx cy cz o))),.int .i64 (iE (cz 0/(gM nx ny nz cx cy cz o)))])) (Mk _ (((hz _ (by omega)).div _).fit (by omega)))) ?_
 refine Ae 1 ?_
 refine qi (iR (cz 0/(gM nx ny nz cx cy cz o))) ?_
 refine qi (iE (cz 0/(gM nx ny nz cx cy cz o))) ?_
 refine Ae 2 ?_
 refine As [6,8,10,15,18,21,59,60,66,67,68] ?_
 refine Bi (Ae 5 ?_)
 refine Mw (.osl 33 1 1) (.new 33 (.vec 3 1 1 (λ_=> .int (iR (cz 0/(gM nx ny nz cx cy cz o)))))) (Cp 65 1 #[(0,(.tmp 83))] underlying65 1 sizeOf3 _ zeroValue3 33 [.int (iR (cz 0/(gM nx ny nz cx cy cz o)))] (λ_=> .int (iR (cz 0/(gM nx ny nz cx cy cz o))))) ?_
 refine Mw (.osl 34 1 1) (.newr 33 34 (.vec 3 1 1 (λxi=> .int (Ha nz cz (gM nx ny nz cx cy cz o) xi)))) (Ez (.tmp 82) (.tmp 84) 65 (by kernel_rfl) underlying65 1 8 (.int .i64 0) (by kernel_rfl) (by kernel_rfl) (by decide) 1 (by omega) (λ_=> .int (iR (cz 0/(gM nx ny nz cx cy cz o)))) (λxi=> .int (Ha nz cz (gM nx ny nz cx cy cz o) xi)) 34 (λi hi=>by(obtain rfl:i=0:=(by omega));show AV.int (Ha _ _ _ _)=_;rw[Ha,if_pos (by omega)]<;>rfl) (λi hi j hj=>by obtain rfl:j=0:=(by omega);rfl) (by unfold maxLen;omega) (by omega) (by kernel_rfl) 33 3 (by kernel_rfl) (by kernel_rfl)) ?_
 refine Ae 2 ?_
 refine Bx [6,8,10,15,18,59,60,66,67,68] ?_
 refine Ee [6,8,10,15,18,59,60,66,67,68] ⟨[(6,.ptr 0 0),(8,.ptr 2 0),(10,.ptr 3 0),(15,.ptr 4 0),(18,.ptr 4 5),(59,.agg [.ptr 4 3,.ptr 4 4,.ptr 4 5]),(60,.int 2),(66,Bf nz cz),(67,.int (nz:Int)),(68,.int ((0:Nat):Int))],[(0,.box 142 [Bf nx cx,Bf ny cy,Bf nz cz]),(1,wB o),(2,sB),(3,wB (gM nx ny nz cx cy cz o)),(4,.box 67 [.int f,.int t,.int (iR (o/(gM nx ny nz cx cy cz o))),.sl 1 (max nx 1) (λxi=> .int (Ha nx cx (gM nx ny nz cx cy cz o) xi)),.sl 1 (max ny 1) (λxi=> .int (Ha ny cy (gM nx ny nz cx cy cz o) xi)),.osl 34 1 1]),(5,wB (o/(gM nx ny nz cx cy cz o))),(32,wB (cz 0)),(33,.vec 3 1 1 (λ_=> .int (iR (cz 0/(gM nx ny nz cx cy cz o))))),(34,.vec 3 1 1 (λxi=> .int (Ha nz cz (gM nx ny nz cx cy cz o) xi)))],35,98⟩ ?_
 refine Hg [(0,0),(1,1),(2,2),(3,3),(4,4),(5,5),(34,20)] 21 0 hA0 _ (Av (Av (Av (Av (Av (Av (Av (Ck (λi _ j hj=>by obtain rfl:j=0:=(by omega);rfl) (Ck (λi _ j hj=>by obtain rfl:j=0:=(by omega);rfl) Cx))))))))) ?_
 refine Bi (qw (((0:Nat):Int)+1) ((0+1:Nat):Int) ?_)
 refine Ae 1 ?_
 refine Bx [6,8,10,15,18,59,60,66,67,68] ?_
 exact⟨_,(by omega:nz-(0+1)<nz-0),0+1,(by omega),rfl,trivial,.inr ⟨Nat.succ_pos _,(by kernel_rfl)⟩⟩
 have hx2d:=of_decide_eq_false hx2
 refine qF hx2 ?_
 refine Co (dB 33 (Nat.le_of_ble_eq_true (by kernel_rfl)) ?_)
 refine Ab (Ae 3 ?_)
 refine qi 0 ?_
 refine qb true ?_
 refine As [6,8,10,15,18,59,60,92] ?_
 refine Ca (Bi ?_)
 refine Ae 1 ?_
 refine Mw (.osl 33 1 1) (.new 33 (.vec 3 1 1 (λ_=> .int 0))) (Cp 65 1 #[(0,(.const (.int .i64 0)))] underlying65 1 sizeOf3 _ zeroValue3 33 [.int 0] (λ_=> .int 0)) ?_
 refine Pa 33 [94] 3 1 1 (λ_=> .int 0) (by kernel_rfl) (by kernel_rfl) (λi _ j hj=>by obtain rfl:j=0:=(by omega);rfl) ?_
 refine Ae 2 ?_
 refine Bx [6,8,10,15,59,60] ?_
 exact uB (by rw[show nz=0 by omega];kernel_rfl)
 refine Ab (qb (decide ((k:Int)<(nz:Int))) ?_)
 refine As [6,8,10,15,18,59,60,66,67,68,69] ?_
 refine Al ?_
 refine Ao (decide ((k:Int)<(nz:Int))) (λhx3=>?_) (λhx3=>?_)
 have hx3d:=of_decide_eq_true hx3
 refine qT hx3 ?_
 refine Aw (Al ?_)
 refine Bb (Ab ?_)
 refine Bl (.elt 2 (λq=>AV.cell (.lit (Ai (cz k))) q)) (Bk 141 (.tmp 66) (.tmp 68) underlying141 2 nz k (λi0=> .lit (Ai (cz i0))) (k:Int) sizeOf96) ?_
 refine Ae 3 ?_
 refine As [6,8,10,15,18,20,59,60,66,67,68] ?_
 refine Ab (Ae 2 ?_)
 refine Bl (.lit (Ai (cz k/(gM nx ny nz cx cy cz o)))) (Br 48 #[.tmp 73,.tmp 74] #[96,96] [.lit (Ai (cz k)),.lit (Ai (gM nx ny nz cx cy cz o))] (.lit (Ai (cz k/(gM nx ny nz cx cy cz o)))) (Ip _ _ ((hz _ (by omega)).fit (by omega)) (bG.fit (by omega)) (by omega))) ?_
 refine Bl (.lit (.tuple #[.int .i64 (iR (cz k/(gM nx ny nz cx cy cz o))),.int .i64 (iE (cz k/(gM nx ny nz cx cy cz o)))])) (Br 47 #[.tmp 75] #[96] [.lit (Ai (cz k/(gM nx ny nz cx cy cz o)))] (.lit (.tuple #[.int .i64 (iR (cz k/(gM nx ny nz cx cy cz o))),.int .i64 (iE (cz k/(gM nx ny nz cx cy cz o)))])) (Mk _ (((hz _ (by omega)).div _).fit (by omega)))) ?_
 refine Ae 1 ?_
 refine qi (iR (cz k/(gM nx ny nz cx cy cz o))) ?_
 refine qi (iE (cz k/(gM nx ny nz cx cy cz o))) ?_
 refine Ae 2 ?_
 refine As [6,8,10,15,18,21,59,60,66,67,68] ?_
 refine Bi (Ae 5 ?_)
 refine Mw (.osl 22 1 1) (.new 22 (.vec 3 1 1 (λ_=> .int (iR (cz k/(gM nx ny nz cx cy cz o)))))) (Cp 65 1 #[(0,(.tmp 83))] underlying65 1 sizeOf3 _ zeroValue3 22 [.int (iR (cz k/(gM nx ny nz cx cy cz o)))] (λ_=> .int (iR (cz k/(gM nx ny nz cx cy cz o))))) ?_
 refine Mw (.osl 23 1 (k+1)) (.grow2 20 22 23 (.vec 3 1 (k+1) (λxi=> .int (Ha nz cz (gM nx ny nz cx cy cz o) xi)))) (Gx (.tmp 82) (.tmp 84) 65 (by kernel_rfl) underlying65 1 8 (.int .i64 0) (by kernel_rfl) (by kernel_rfl) (by decide) k 1 (by omega) (λxi=> .int (Ha nz cz (gM nx ny nz cx cy cz o) xi)) (λ_=> .int (iR (cz k/(gM nx ny nz cx cy cz o)))) (λxi=> .int (Ha nz cz (gM nx ny nz cx cy cz o) xi)) 23 (by omega) (by unfold maxLen;omega) (λi hi=>rfl) (λi hi=>by(obtain rfl:i=0:=(by omega));show AV.int (Ha _ _ _ _)=_;rw[Ha,if_pos (by omega)]<;>rfl) (λi hi j hj=>by obtain rfl:j=0:=(by omega);rfl) 20 (by kernel_rfl) (by kernel_rfl) 22 3 (by kernel_rfl) (by kernel_rfl)) ?_
 refine Ae 2 ?_
 refine Bx [6,8,10,15,18,59,60,66,67,68] ?_
 refine Ee [6,8,10,15,18,59,60,66,67,68] ⟨[(6,.ptr 0 0),(8,.ptr 2 0),(10,.ptr 3 0),(15,.ptr 4 0),(18,.ptr 4 5),(59,.agg [.ptr 4 3,.ptr 4 4,.ptr 4 5]),(60,.int 2),(66,Bf nz cz),(67,.int (nz:Int)),(68,.int (k:Int))],[(0,.box 142 [Bf nx cx,Bf ny cy,Bf nz cz]),(1,wB o),(2,sB),(3,wB (gM nx ny nz cx cy cz o)),(4,.box 67 [.int f,.int t,.int (iR (o/(gM nx ny nz cx cy cz o))),.sl 1 (max nx 1) (λxi=> .int (Ha nx cx (gM nx ny nz cx cy cz o) xi)),.sl 1 (max ny 1) (λxi=> .int (Ha ny cy (gM nx ny nz cx cy cz o) xi)),.osl 23 1 (k+1)]),(5,wB (o/(gM nx ny nz cx cy cz o))),(21,wB (cz k)),(22,.vec 3 1 1 (λ_=> .int (iR (cz k/(gM nx ny nz cx cy cz o))))),(23,.vec 3 1 (k+1) (λxi=> .int (Ha nz cz (gM nx ny nz cx cy cz o) xi)))],24,98⟩ ?_
 refine Hg [(0,0),(1,1),(2,2),(3,3),(4,4),(5,5),(23,20)] 21 0 hA0 _ (Av (Av (Av (Av (Av (Av (Av (Ck (λi _ j hj=>by obtain rfl:j=0:=(by omega);rfl) (Ck (λi _ j hj=>by obtain rfl:j=0:=(by omega);rfl) Cx))))))))) ?_
 refine Bi (qw ((k:Int)+1) ((k+1:Nat):Int) ?_)
 refine Ae 1 ?_
 refine Bx [6,8,10,15,18,59,60,66,67,68] ?_
 exact⟨_,(by omega:nz-(k+1)<nz-k),k+1,(by omega),rfl,trivial,.inr ⟨Nat.succ_pos _,(by kernel_rfl)⟩⟩
 have hx3d:=of_decide_eq_false hx3
 refine qF hx3 ?_
 refine Co (Jo 20 4 5 3 1 k (λxi=> .int (Ha nz cz (gM nx ny nz cx cy cz o) xi)) 67 [.int f,.int t,.int (iR (o/(gM nx ny nz cx cy cz o))),.sl 1 (max nx 1) (λxi=> .int (Ha nx cx (gM nx ny nz cx cy cz o) xi)),.sl 1 (max ny 1) (λxi=> .int (Ha ny cy (gM nx ny nz cx cy cz o) xi)),.osl 20 1 k] [.int f,.int t,.int (iR (o/(gM nx ny nz cx cy cz o))),.sl 1 (max nx 1) (λxi=> .int (Ha nx cx (gM nx ny nz cx cy cz o) xi)),.sl 1 (max ny 1) (λxi=> .int (Ha ny cy (gM nx ny nz cx cy cz o) xi)),.sl 1 k (λxi=> .int (Ha nz cz (gM nx ny nz cx cy cz o) xi))] (by kernel_rfl) (by kernel_rfl) (by kernel_rfl) (by kernel_rfl) (by kernel_rfl) (λi _ j hj=>by obtain rfl:j=0:=(by omega);rfl) ?_)
 have hke:k=max nz 1:=by omega
 subst hke
 refine dB 34 (Nat.le_of_ble_eq_true (by kernel_rfl)) ?_
 refine Ab (Ae 3 ?_)
 refine Bl (.int ((max nz 1:Nat):Int)) (Dg (.tmp 90) 65 #[65] underlying65 (max nz 1) (.inl ⟨1,(λxi=> .int (Ha nz cz (gM nx ny nz cx cy cz o) xi)),by kernel_rfl⟩)) ?_
 refine Bl (.bool false) (Dx (v:= .bool (decide (((max nz 1:Nat):Int)=0))) (v':= .bool false) (congrArg Value.bool (decide_eq_false (by omega))) _) ?_
 refine As [6,8,10,15,18,59,60,92] ?_
 refine Bq (Ee [6,8,10,15,59,60] ⟨[(6,.ptr 0 0),(8,.ptr 2 0),(10,.ptr 3 0),(15,.ptr 4 0),(59,.agg [.ptr 4 3,.ptr 4 4,.ptr 4 5]),(60,.int 2)],[(0,.box 142 [Bf nx cx,Bf ny cy,Bf nz cz]),(1,wB o),(2,sB),(3,wB (gM nx ny nz cx cy cz o)),(4,.box 67 [.int f,.int t,.int (iR (o/(gM nx ny nz cx cy cz o))),.sl 1 (max nx 1) (λxi=> .int (Ha nx cx (gM nx ny nz cx cy cz o) xi)),.sl 1 (max ny 1) (λxi=> .int (Ha ny cy (gM nx ny nz cx cy cz o) xi)),.sl 1 (max nz 1) (λxi=> .int (Ha nz cz (gM nx ny nz cx cy cz o) xi))]),(5,wB (o/(gM nx ny nz cx cy cz o)))],34,98⟩ ?_)
 refine Aw ?_
 exact uB (by kernel_rfl)
 refine Bb (Ab ?_)
 refine Ae 1 ?_
 refine Bl (.ptr 4 4) (Gf 166 (.tmp 59) (.tmp 60) underlying166 1 sizeOf165 1 false isAgg165 [.ptr 4 3,.ptr 4 4,.ptr 4 5] 1 (.ptr 4 4)) ?_
 refine Ae 2 ?_
 refine As [6,8,10,15,17,18,59,60] ?_
 refine Al (Ab ?_)
 refine Ae 1 ?_
 refine Bl (.ptr 0 1) (Df 142 (.tmp 6) (.tmp 64) underlying142 0 0 1 1 1 sizeOf141) ?_
 refine Ae 1 ?_
 refine Bl (.int (ny:Int)) (Dg (.tmp 66) 141 #[141] underlying141 ny (.inl ⟨2,(λi0=> .lit (Ai (cy i0))),by kernel_rfl⟩)) ?_
 refine Ae 1 ?_
 refine As [6,8,10,15,18,59,60,66,67,68] ?_
 refine Bb (Cn (λm s=>∃k,k<=ny/\m=ny-k/\True/\((k=0/\s=⟨[(6,.ptr 0 0),(8,.ptr 2 0),(10,.ptr 3 0),(15,.ptr 4 0),(18,.ptr 4 4),(59,.agg [.ptr 4 3,.ptr 4 4,.ptr 4 5]),(60,.int 1),(66,Bf ny cy),(67,.int (ny:Int)),(68,.int ((0:Nat):Int))],[(0,.box 142 [Bf nx cx,Bf ny cy,Bf nz cz]),(1,wB o),(2,sB),(3,wB (gM nx ny nz cx cy cz o)),(4,.box 67 [.int f,.int t,.int (iR (o/(gM nx ny nz cx cy cz o))),.sl 1 (max nx 1) (λxi=> .int (Ha nx cx (gM nx ny nz cx cy cz o) xi)),.lit (.slice none 0 0),.lit (.slice none 0 0)]),(5,wB (o/(gM nx ny nz cx cy cz o)))],30,98⟩)\/(0<k/\s=⟨[(6,.ptr 0 0),(8,.ptr 2 0),(10,.ptr 3 0),(15,.ptr 4 0),(18,.ptr 4 4),(59,.agg [.ptr 4 3,.ptr 4 4,.ptr 4 5]),(60,.int 1),(66,Bf ny cy),(67,.int (ny:Int)),(68,.int (k:Int))],[(0,.box 142 [Bf nx cx,Bf ny cy,Bf nz cz]),(1,wB o),(2,sB),(3,wB (gM nx ny nz cx cy cz o)),(4,.box 67 [.int f,.int t,.int (iR (o/(gM nx ny nz cx cy cz o))),.sl 1 (max nx 1) (λxi=> .int (Ha nx cx (gM nx ny nz cx cy cz o) xi)),.osl 20 1 k,.lit (.slice none 0 0)]),(5,wB (o/(gM nx ny nz cx cy cz o))),(20,.vec 3 1 k (λxi=> .int (Ha ny cy (gM nx ny nz cx cy cz o) xi)))],21,98⟩))) ny ⟨0,Nat.zero_le _,rfl,trivial,.inl ⟨rfl,(by kernel_rfl)⟩⟩ ?_)
 rintro _ _ ⟨k,hkn,rfl,hFk,(⟨hk0,rfl⟩|⟨hk0,rfl⟩)⟩
 subst hk0
 refine Ab (qb (decide (((0:Nat):Int)<(ny:Int))) ?_)
 refine As [6,8,10,15,18,59,60,66,67,68,69] ?_
 refine Al ?_
 refine Ao (decide (((0:Nat):Int)<(ny:Int))) (λhx4=>?_) (λhx4=>?_)
 have hx4d:=of_decide_eq_true hx4
 refine qT hx4 ?_
 refine Aw (Al ?_)
 refine Bb (Ab ?_)
 refine Bl (.elt 2 (λq=>AV.cell (.lit (Ai (cy 0))) q)) (Bk 141 (.tmp 66) (.tmp 68) underlying141 2 ny 0 (λi0=> .lit (Ai (cy i0))) ((0:Nat):Int) sizeOf96) ?_
 refine Ae 3 ?_
 refine As [6,8,10,15,18,20,59,60,66,67,68] ?_
 refine Ab (Ae 2 ?_)
 refine Bl (.lit (Ai (cy 0/(gM nx ny nz cx cy cz o)))) (Br 48 #[.tmp 73,.tmp 74] #[96,96] [.lit (Ai (cy 0)),.lit (Ai (gM nx ny nz cx cy cz o))] (.lit (Ai (cy 0/(gM nx ny nz cx cy cz o)))) (Ip _ _ ((hy _ (by omega)).fit (by omega)) (bG.fit (by omega)) (by omega))) ?_
 refine Bl (.lit (.tuple #[.int .i64 (iR (cy 0/(gM nx ny nz cx cy cz o))),.int .i64 (iE (cy 0/(gM nx ny nz cx cy cz o)))])) (Br 47 #[.tmp 75] #[96] [.lit (Ai (cy 0/(gM nx ny nz cx cy cz o)))] (.lit (.tuple #[.int .i64 (iR (cy 0/(gM nx ny nz cx cy cz o))),.int .i64 (iE (cy 0/(gM nx ny nz cx cy cz o)))])) (Mk _ (((hy _ (by omega)).div _).fit (by omega)))) ?_
 refine Ae 1 ?_
 refine qi (iR (cy 0/(gM nx ny nz cx cy cz o))) ?_
 refine qi (iE (cy 0/(gM nx ny nz cx cy cz o))) ?_
 refine Ae 2 ?_
 refine As [6,8,10,15,18,21,59,60,66,67,68] ?_
 refine Bi (Ae 5 ?_)
 refine Mw (.osl 31 1 1) (.new 31 (.vec 3 1 1 (λ_=> .int (iR (cy 0/(gM nx ny nz cx cy cz o)))))) (Cp 65 1 #[(0,(.tmp 83))] underlying65 1 sizeOf3 _ zeroValue3 31 [.int (iR (cy 0/(gM nx ny nz cx cy cz o)))] (λ_=> .int (iR (cy 0/(gM nx ny nz cx cy cz o))))) ?_
 refine Mw (.osl 32 1 1) (.newr 31 32 (.vec 3 1 1 (λxi=> .int (Ha ny cy (gM nx ny nz cx cy cz o) xi)))) (Ez (.tmp 82) (.tmp 84) 65 (by kernel_rfl) underlying65 1 8 (.int .i64 0) (by kernel_rfl) (by kernel_rfl) (by decide) 1 (by omega) (λ_=> .int (iR (cy 0/(gM nx ny nz cx cy cz o)))) (λxi=> .int (Ha ny cy (gM nx ny nz cx cy cz o) xi)) 32 (λi hi=>by(obtain rfl:i=0:=(by omega));show AV.int (Ha _ _ _ _)=_;rw[Ha,if_pos (by omega)]<;>rfl) (λi hi j hj=>by obtain rfl:j=0:=(by omega);rfl) (by unfold maxLen;omega) (by omega) (by kernel_rfl) 31 3 (by kernel_rfl) (by kernel_rfl)) ?_
 refine Ae 2 ?_
 refine Bx [6,8,10,15,18,59,60,66,67,68] ?_
 refine Ee [6,8,10,15,18,59,60,66,67,68] ⟨[(6,.ptr 0 0),(8,.ptr 2 0),(10,.ptr 3 0),(15,.ptr 4 0),(18,.ptr 4 4),(59,.agg [.ptr 4 3,.ptr 4 4,.ptr 4 5]),(60,.int 1),(66,Bf ny cy),(67,.int (ny:Int)),(68,.int ((0:Nat):Int))],[(0,.box 142 [Bf nx cx,Bf ny cy,Bf nz cz]),(1,wB o),(2,sB),(3,wB (gM nx ny nz cx cy cz o)),(4,.box 67 [.int f,.int t,.int (iR (o/(gM nx ny nz cx cy cz o))),.sl 1 (max nx 1) (λxi=> .int (Ha nx cx (gM nx ny nz cx cy cz o) xi)),.osl 32 1 1,.lit (.slice none 0 0)]),(5,wB (o/(gM nx ny nz cx cy cz o))),(30,wB (cy 0)),(31,.vec 3 1 1 (λ_=> .int (iR (cy 0/(gM nx ny nz cx cy cz o))))),(32,.vec 3 1 1 (λxi=> .int (Ha ny cy (gM nx ny nz cx cy cz o) xi)))],33,98⟩ ?_
 refine Hg [(0,0),(1,1),(2,2),(3,3),(4,4),(5,5),(32,20)] 21 0 hA0 _ (Av (Av (Av (Av (Av (Av (Av (Ck (λi _ j hj=>by obtain rfl:j=0:=(by omega);rfl) (Ck (λi _ j hj=>by obtain rfl:j=0:=(by omega);rfl) Cx))))))))) ?_
 refine Bi (qw (((0:Nat):Int)+1) ((0+1:Nat):Int) ?_)
 refine Ae 1 ?_
 refine Bx [6,8,10,15,18,59,60,66,67,68] ?_
 exact⟨_,(by omega:ny-(0+1)<ny-0),0+1,(by omega),rfl,trivial,.inr ⟨Nat.succ_pos _,(by kernel_rfl)⟩⟩
 have hx4d:=of_decide_eq_false hx4
 refine qF hx4 ?_
 refine Co (dB 31 (Nat.le_of_ble_eq_true (by kernel_rfl)) ?_)
 refine Ab (Ae 3 ?_)
 refine qi 0 ?_
 refine qb true ?_
 refine As [6,8,10,15,18,59,60,92] ?_
 refine Ca (Bi ?_)
 refine Ae 1 ?_
 refine Mw (.osl 31 1 1) (.new 31 (.vec 3 1 1 (λ_=> .int 0))) (Cp 65 1 #[(0,(.const (.int .i64 0)))] underlying65 1 sizeOf3 _ zeroValue3 31 [.int 0] (λ_=> .int 0)) ?_
 refine Pa 31 [94] 3 1 1 (λ_=> .int 0) (by kernel_rfl) (by kernel_rfl) (λi _ j hj=>by obtain rfl:j=0:=(by omega);rfl) ?_
 refine Ae 2 ?_
 refine Bx [6,8,10,15,59,60] ?_
 exact uB (by rw[show ny=0 by omega];kernel_rfl)
 refine Ab (qb (decide ((k:Int)<(ny:Int))) ?_)
 refine As [6,8,10,15,18,59,60,66,67,68,69] ?_
 refine Al ?_
 refine Ao (decide ((k:Int)<(ny:Int))) (λhx5=>?_) (λhx5=>?_)
 have hx5d:=of_decide_eq_true hx5
 refine qT hx5 ?_
 refine Aw (Al ?_)
 refine Bb (Ab ?_)
 refine Bl (.elt 2 (λq=>AV.cell (.lit (Ai (cy k))) q)) (Bk 141 (.tmp 66) (.tmp 68) underlying141 2 ny k (λi0=> .lit (Ai (cy i0))) (k:Int) sizeOf96) ?_
 refine Ae 3 ?_
 refine As [6,8,10,15,18,20,59,60,66,67,68] ?_
 refine Ab (Ae 2 ?_)
 refine Bl (.lit (Ai (cy k/(gM nx ny nz cx cy cz o)))) (Br 48 #[.tmp 73,.tmp 74] #[96,96] [.lit (Ai (cy k)),.lit (Ai (gM nx ny nz cx cy cz o))] (.lit (Ai (cy k/(gM nx ny nz cx cy cz o)))) (Ip _ _ ((hy _ (by omega)).fit (by omega)) (bG.fit (by omega)) (by omega))) ?_
 refine Bl (.lit (.tuple #[.int .i64 (iR (cy k/(gM nx ny nz cx cy cz o))),.int .i64 (iE (cy k/(gM nx ny nz cx cy cz o)))])) (Br 47 #[.tmp 75] #[96] [.lit (Ai (cy k/(gM nx ny nz cx cy cz o)))] (.lit (.tuple #[.int .i64 (iR (cy k/(gM nx ny nz cx cy cz o))),.int .i64 (iE (cy k/(gM nx ny nz cx cy cz o)))])) (Mk _ (((hy _ (by omega)).div _).fit (by omega)))) ?_
 refine Ae 1 ?_
 refine qi (iR (cy k/(gM nx ny nz cx cy cz o))) ?_
 refine qi (iE (cy k/(gM nx ny nz cx cy cz o))) ?_
 refine Ae 2 ?_
 refine As [6,8,10,15,18,21,59,60,66,67,68] ?_
 refine Bi (Ae 5 ?_)
 refine Mw (.osl 22 1 1) (.new 22 (.vec 3 1 1 (λ_=> .int (iR (cy k/(gM nx ny nz cx cy cz o)))))) (Cp 65 1 #[(0,(.tmp 83))] underlying65 1 sizeOf3 _ zeroValue3 22 [.int (iR (cy k/(gM nx ny nz cx cy cz o)))] (λ_=> .int (iR (cy k/(gM nx ny nz cx cy cz o))))) ?_
 refine Mw (.osl 23 1 (k+1)) (.grow2 20 22 23 (.vec 3 1 (k+1) (λxi=> .int (Ha ny cy (gM nx ny nz cx cy cz o) xi)))) (Gx (.tmp 82) (.tmp 84) 65 (by kernel_rfl) underlying65 1 8 (.int .i64 0) (by kernel_rfl) (by kernel_rfl) (by decide) k 1 (by omega) (λxi=> .int (Ha ny cy (gM nx ny nz cx cy cz o) xi)) (λ_=> .int (iR (cy k/(gM nx ny nz cx cy cz o)))) (λxi=> .int (Ha ny cy (gM nx ny nz cx cy cz o) xi)) 23 (by omega) (by unfold maxLen;omega) (λi hi=>rfl) (λi hi=>by(obtain rfl:i=0:=(by omega));show AV.int (Ha _ _ _ _)=_;rw[Ha,if_pos (by omega)]<;>rfl) (λi hi j hj=>by obtain rfl:j=0:=(by omega);rfl) 20 (by kernel_rfl) (by kernel_rfl) 22 3 (by kernel_rfl) (by kernel_rfl)) ?_
 refine Ae 2 ?_
 refine Bx [6,8,10,15,18,59,60,66,67,68] ?_
 refine Ee [6,8,10,15,18,59,60,66,67,68] ⟨[(6,.ptr 0 0),(8,.ptr 2 0),(10,.ptr 3 0),(15,.ptr 4 0),(18,.ptr 4 4),(59,.agg [.ptr 4 3,.ptr 4 4,.ptr 4 5]),(60,.int 1),(66,Bf ny cy),(67,.int (ny:Int)),(68,.int (k:Int))],[(0,.box 142 [Bf nx cx,Bf ny cy,Bf nz cz]),(1,wB o),(2,sB),(3,wB (gM nx ny nz cx cy cz o)),(4,.box 67 [.int f,.int t,.int (iR (o/(gM nx ny nz cx cy cz o))),.sl 1 (max nx 1) (λxi=> .int (Ha nx cx (gM nx ny nz cx cy cz o) xi)),.osl 23 1 (k+1),.lit (.slice none 0 0)]),(5,wB (o/(gM nx ny nz cx cy cz o))),(21,wB (cy k)),(22,.vec 3 1 1 (λ_=> .int (iR (cy k/(gM nx ny nz cx cy cz o))))),(23,.vec 3 1 (k+1) (λxi=> .int (Ha ny cy (gM nx ny nz cx cy cz o) xi)))],24,98⟩ ?_
 refine Hg [(0,0),(1,1),(2,2),(3,3),(4,4),(5,5),(23,20)] 21 0 hA0 _ (Av (Av (Av (Av (Av (Av (Av (Ck (λi _ j hj=>by obtain rfl:j=0:=(by omega);rfl) (Ck (λi _ j hj=>by obtain rfl:j=0:=(by omega);rfl) Cx))))))))) ?_
 refine Bi (qw ((k:Int)+1) ((k+1:Nat):Int) ?_)
 refine Ae 1 ?_
 refine Bx [6,8,10,15,18,59,60,66,67,68] ?_
 exact⟨_,(by omega:ny-(k+1)<ny-k),k+1,(by omega),rfl,trivial,.inr ⟨Nat.succ_pos _,(by kernel_rfl)⟩⟩
 have hx5d:=of_decide_eq_false hx5
 refine qF hx5 ?_
 refine Co (Jo 20 4 4 3 1 k (λxi=> .int (Ha ny cy (gM nx ny nz cx cy cz o) xi)) 67 [.int f,.int t,.int (iR (o/(gM nx ny nz cx cy cz o))),.sl 1 (max nx 1) (λxi=> .int (Ha nx cx (gM nx ny nz cx cy cz o) xi)),.osl 20 1 k,.lit (.slice none 0 0)] [.int f,.int t,.int (iR (o/(gM nx ny nz cx cy cz o))),.sl 1 (max nx 1) (λxi=> .int (Ha nx cx (gM nx ny nz cx cy cz o) xi)),.sl 1 k (λxi=> .int (Ha ny cy (gM nx ny nz cx cy cz o) xi)),.lit (.slice none 0 0)] (by kernel_rfl) (by kernel_rfl) (by kernel_rfl) (by kernel_rfl) (by kernel_rfl) (λi _ j hj=>by obtain rfl:j=0:=(by omega);rfl) ?_)
 have hke:k=max ny 1:=by omega
 subst hke
 refine dB 32 (Nat.le_of_ble_eq_true (by kernel_rfl)) ?_
 refine Ab (Ae 3 ?_)
 refine Bl (.int ((max ny 1:Nat):Int)) (Dg (.tmp 90) 65 #[65] underlying65 (max ny 1) (.inl ⟨1,(λxi=> .int (Ha ny cy (gM nx ny nz cx cy cz o) xi)),by kernel_rfl⟩)) ?_
 refine Bl (.bool false) (Dx (v:= .bool (decide (((max ny 1:Nat):Int)=0))) (v':= .bool false) (congrArg Value.bool (decide_eq_false (by omega))) _) ?_
 refine As [6,8,10,15,18,59,60,92] ?_
 refine Bq (Ee [6,8,10,15,59,60] ⟨[(6,.ptr 0 0),(8,.ptr 2 0),(10,.ptr 3 0),(15,.ptr 4 0),(59,.agg [.ptr 4 3,.ptr 4 4,.ptr 4 5]),(60,.int 1)],[(0,.box 142 [Bf nx cx,Bf ny cy,Bf nz cz]),(1,wB o),(2,sB),(3,wB (gM nx ny nz cx cy cz o)),(4,.box 67 [.int f,.int t,.int (iR (o/(gM nx ny nz cx cy cz o))),.sl 1 (max nx 1) (λxi=> .int (Ha nx cx (gM nx ny nz cx cy cz o) xi)),.sl 1 (max ny 1) (λxi=> .int (Ha ny cy (gM nx ny nz cx cy cz o) xi)),.lit (.slice none 0 0)]),(5,wB (o/(gM nx ny nz cx cy cz o)))],32,98⟩ ?_)
 refine Aw ?_
 exact uB (by kernel_rfl)
 refine Bb (Ab ?_)
 refine Ae 1 ?_
 refine Bl (.ptr 4 3) (Gf 166 (.tmp 59) (.tmp 60) underlying166 1 sizeOf165 0 false isAgg165 [.ptr 4 3,.ptr 4 4,.ptr 4 5] 0 (.ptr 4 3)) ?_
 refine Ae 2 ?_
 refine As [6,8,10,15,17,18,59,60] ?_
 refine Al (Ab ?_)
 refine Ae 1 ?_
 refine Bl (.ptr 0 0) (Df 142 (.tmp 6) (.tmp 64) underlying142 0 0 1 0 0 sizeOf141) ?_
 refine Ae 1 ?_
 refine Bl (.int (nx:Int)) (Dg (.tmp 66) 141 #[141] underlying141 nx (.inl ⟨2,(λi0=> .lit (Ai (cx i0))),by kernel_rfl⟩)) ?_
 refine Ae 1 ?_
 refine As [6,8,10,15,18,59,60,66,67,68] ?_
 refine Bb (Cn (λm s=>∃k,k<=nx/\m=nx-k/\True/\((k=0/\s=⟨[(6,.ptr 0 0),(8,.ptr 2 0),(10,.ptr 3 0),(15,.ptr 4 0),(18,.ptr 4 3),(59,.agg [.ptr 4 3,.ptr 4 4,.ptr 4 5]),(60,.int 0),(66,Bf nx cx),(67,.int (nx:Int)),(68,.int ((0:Nat):Int))],[(0,.box 142 [Bf nx cx,Bf ny cy,Bf nz cz]),(1,wB o),(2,sB),(3,wB (gM nx ny nz cx cy cz o)),(4,.box 67 [.int f,.int t,.int (iR (o/(gM nx ny nz cx cy cz o))),.lit (.slice none 0 0),.lit (.slice none 0 0),.lit (.slice none 0 0)]),(5,wB (o/(gM nx ny nz cx cy cz o)))],6,98⟩)\/(0<k/\s=⟨[(6,.ptr 0 0),(8,.ptr 2 0),(10,.ptr 3 0),(15,.ptr 4 0),(18,.ptr 4 3),(59,.agg [.ptr 4 3,.ptr 4 4,.ptr 4 5]),(60,.int 0),(66,Bf nx cx),(67,.int (nx:Int)),(68,.int (k:Int))],[(0,.box 142 [Bf nx cx,Bf ny cy,Bf nz cz]),(1,wB o),(2,sB),(3,wB (gM nx ny nz cx cy cz o)),(4,.box 67 [.int f,.int t,.int (iR (o/(gM nx ny nz cx cy cz o))),.osl 20 1 k,.lit (.slice none 0 0),.lit (.slice none 0 0)]),(5,wB (o/(gM nx ny nz cx cy cz o))),(20,.vec 3 1 k (λxi=> .int (Ha nx cx (gM nx ny nz cx cy cz o) xi)))],21,98⟩))) nx ⟨0,Nat.zero_le _,rfl,trivial,.inl ⟨rfl,(by kernel_rfl)⟩⟩ ?_)
 rintro _ _ ⟨k,hkn,rfl,hFk,(⟨hk0,rfl⟩|⟨hk0,rfl⟩)⟩
 subst hk0
 refine Ab (qb (decide (((0:Nat):Int)<(nx:Int))) ?_)
 refine As [6,8,10,15,18,59,60,66,67,68,69] ?_
 refine Al ?_
 refine Ao (decide (((0:Nat):Int)<(nx:Int))) (λhx6=>?_) (λhx6=>?_)
 have hx6d:=of_decide_eq_true hx6
 refine qT hx6 ?_
 refine Aw (Al ?_)
 refine Bb (Ab ?_)
 refine Bl (.elt 2 (λq=>AV.cell (.lit (Ai (cx 0))) q)) (Bk 141 (.tmp 66) (.tmp 68) underlying141 2 nx 0 (λi0=> .lit (Ai (cx i0))) ((0:Nat):Int) sizeOf96) ?_
 refine Ae 3 ?_
 refine As [6,8,10,15,18,20,59,60,66,67,68] ?_
 refine Ab (Ae 2 ?_)
 refine Bl (.lit (Ai (cx 0/(gM nx ny nz cx cy cz o)))) (Br 48 #[.tmp 73,.tmp 74] #[96,96] [.lit (Ai (cx 0)),.lit (Ai (gM nx ny nz cx cy cz o))] (.lit (Ai (cx 0/(gM nx ny nz cx cy cz o)))) (Ip _ _ ((hx _ (by omega)).fit (by omega)) (bG.fit (by omega)) (by omega))) ?_
 refine Bl (.lit (.tuple #[.int .i64 (iR (cx 0/(gM nx ny nz cx cy cz o))),.int .i64 (iE (cx 0/(gM nx ny nz cx cy cz o)))])) (Br 47 #[.tmp 75] #[96] [.lit (Ai (cx 0/(gM nx ny nz cx cy cz o)))] (.lit (.tuple #[.int .i64 (iR (cx 0/(gM nx ny nz cx cy cz o))),.int .i64 (iE (cx 0/(gM nx ny nz cx cy cz o)))])) (Mk _ (((hx _ (by omega)).div _).fit (by omega)))) ?_
 refine Ae 1 ?_
 refine qi (iR (cx 0/(gM nx ny nz cx cy cz o))) ?_
 refine qi (iE (cx 0/(gM nx ny nz cx cy cz o))) ?_
 refine Ae 2 ?_
 refine As [6,8,10,15,18,21,59,60,66,67,68] ?_
 refine Bi (Ae 5 ?_)
 refine Mw (.osl 7 1 1) (.new 7 (.vec 3 1 1 (λ_=> .int (iR (cx 0/(gM nx ny nz cx cy cz o)))))) (Cp 65 1 #[(0,(.tmp 83))] underlying65 1 sizeOf3 _ zeroValue3 7 [.int (iR (cx 0/(gM nx ny nz cx cy cz o)))] (λ_=> .int (iR (cx 0/(gM nx ny nz cx cy cz o))))) ?_
 refine Mw (.osl 8 1 1) (.newr 7 8 (.vec 3 1 1 (λxi=> .int (Ha nx cx (gM nx ny nz cx cy cz o) xi)))) (Ez (.tmp 82) (.tmp 84) 65 (by kernel_rfl) underlying65 1 8 (.int .i64 0) (by kernel_rfl) (by kernel_rfl) (by decide) 1 (by omega) (λ_=> .int (iR (cx 0/(gM nx ny nz cx cy cz o)))) (λxi=> .int (Ha nx cx (gM nx ny nz cx cy cz o) xi)) 8 (λi hi=>by(obtain rfl:i=0:=(by omega));show AV.int (Ha _ _ _ _)=_;rw[Ha,if_pos (by omega)]<;>rfl) (λi hi j hj=>by obtain rfl:j=0:=(by omega);rfl) (by unfold maxLen;omega) (by omega) (by kernel_rfl) 7 3 (by kernel_rfl) (by kernel_rfl)) ?_
 refine Ae 2 ?_
 refine Bx [6,8,10,15,18,59,60,66,67,68] ?_
 refine Ee [6,8,10,15,18,59,60,66,67,68] ⟨[(6,.ptr 0 0),(8,.ptr 2 0),(10,.ptr 3 0),(15,.ptr 4 0),(18,.ptr 4 3),(59,.agg [.ptr 4 3,.ptr 4 4,.ptr 4 5]),(60,.int 0),(66,Bf nx cx),(67,.int (nx:Int)),(68,.int ((0:Nat):Int))],[(0,.box 142 [Bf nx cx,Bf ny cy,Bf nz cz]),(1,wB o),(2,sB),(3,wB (gM nx ny nz cx cy cz o)),(4,.box 67 [.int f,.int t,.int (iR (o/(gM nx ny nz cx cy cz o))),.osl 8 1 1,.lit (.slice none 0 0),.lit (.slice none 0 0)]),(5,wB (o/(gM nx ny nz cx cy cz o))),(6,wB (cx 0)),(7,.vec 3 1 1 (λ_=> .int (iR (cx 0/(gM nx ny nz cx cy cz o))))),(8,.vec 3 1 1 (λxi=> .int (Ha nx cx (gM nx ny nz cx cy cz o) xi)))],9,98⟩ ?_
 refine Hg [(0,0),(1,1),(2,2),(3,3),(4,4),(5,5),(8,20)] 21 0 hA0 _ (Av (Av (Av (Av (Av (Av (Av (Ck (λi _ j hj=>by obtain rfl:j=0:=(by omega);rfl) (Ck (λi _ j hj=>by obtain rfl:j=0:=(by omega);rfl) Cx))))))))) ?_
 refine Bi (qw (((0:Nat):Int)+1) ((0+1:Nat):Int) ?_)
 refine Ae 1 ?_
 refine Bx [6,8,10,15,18,59,60,66,67,68] ?_
 exact⟨_,(by omega:nx-(0+1)<nx-0),0+1,(by omega),rfl,trivial,.inr ⟨Nat.succ_pos _,(by kernel_rfl)⟩⟩
 have hx6d:=of_decide_eq_false hx6
 refine qF hx6 ?_
 refine Co (dB 29 (Nat.le_of_ble_eq_true (by kernel_rfl)) ?_)
 refine Ab (Ae 3 ?_)
 refine qi 0 ?_
 refine qb true ?_
 refine As [6,8,10,15,18,59,60,92] ?_
 refine Ca (Bi ?_)
 refine Ae 1 ?_
 refine Mw (.osl 29 1 1) (.new 29 (.vec 3 1 1 (λ_=> .int 0))) (Cp 65 1 #[(0,(.const (.int .i64 0)))] underlying65 1 sizeOf3 _ zeroValue3 29 [.int 0] (λ_=> .int 0)) ?_
 refine Pa 29 [94] 3 1 1 (λ_=> .int 0) (by kernel_rfl) (by kernel_rfl) (λi _ j hj=>by obtain rfl:j=0:=(by omega);rfl) ?_
 refine Ae 2 ?_
 refine Bx [6,8,10,15,59,60] ?_
 exact uB (by rw[show nx=0 by omega];kernel_rfl)
 refine Ab (qb (decide ((k:Int)<(nx:Int))) ?_)
 refine As [6,8,10,15,18,59,60,66,67,68,69] ?_
 refine Al ?_
 refine Ao (decide ((k:Int)<(nx:Int))) (λhx7=>?_) (λhx7=>?_)
 have hx7d:=of_decide_eq_true hx7
 refine qT hx7 ?_
 refine Aw (Al ?_)
 refine Bb (Ab ?_)
 refine Bl (.elt 2 (λq=>AV.cell (.lit (Ai (cx k))) q)) (Bk 141 (.tmp 66) (.tmp 68) underlying141 2 nx k (λi0=> .lit (Ai (cx i0))) (k:Int) sizeOf96) ?_
 refine Ae 3 ?_
 refine As [6,8,10,15,18,20,59,60,66,67,68] ?_
 refine Ab (Ae 2 ?_)
 refine Bl (.lit (Ai (cx k/(gM nx ny nz cx cy cz o)))) (Br 48 #[.tmp 73,.tmp 74] #[96,96] [.lit (Ai (cx k)),.lit (Ai (gM nx ny nz cx cy cz o))] (.lit (Ai (cx k/(gM nx ny nz cx cy cz o)))) (Ip _ _ ((hx _ (by omega)).fit (by omega)) (bG.fit (by omega)) (by omega))) ?_
 refine Bl (.lit (.tuple #[.int .i64 (iR (cx k/(gM nx ny nz cx cy cz o))),.int .i64 (iE (cx k/(gM nx ny nz cx cy cz o)))])) (Br 47 #[.tmp 75] #[96] [.lit (Ai (cx k/(gM nx ny nz cx cy cz o)))] (.lit (.tuple #[.int .i64 (iR (cx k/(gM nx ny nz cx cy cz o))),.int .i64 (iE (cx k/(gM nx ny nz cx cy cz o)))])) (Mk _ (((hx _ (by omega)).div _).fit (by omega)))) ?_
 refine Ae 1 ?_
 refine qi (iR (cx k/(gM nx ny nz cx cy cz o))) ?_
 refine qi (iE (cx k/(gM nx ny nz cx cy cz o))) ?_
 refine Ae 2 ?_
 refine As [6,8,10,15,18,21,59,60,66,67,68] ?_
 refine Bi (Ae 5 ?_)
 refine Mw (.osl 22 1 1) (.new 22 (.vec 3 1 1 (λ_=> .int (iR (cx k/(gM nx ny nz cx cy cz o)))))) (Cp 65 1 #[(0,(.tmp 83))] underlying65 1 sizeOf3 _ zeroValue3 22 [.int (iR (cx k/(gM nx ny nz cx cy cz o)))] (λ_=> .int (iR (cx k/(gM nx ny nz cx cy cz o))))) ?_
 refine Mw (.osl 23 1 (k+1)) (.grow2 20 22 23 (.vec 3 1 (k+1) (λxi=> .int (Ha nx cx (gM nx ny nz cx cy cz o) xi)))) (Gx (.tmp 82) (.tmp 84) 65 (by kernel_rfl) underlying65 1 8 (.int .i64 0) (by kernel_rfl) (by kernel_rfl) (by decide) k 1 (by omega) (λxi=> .int (Ha nx cx (gM nx ny nz cx cy cz o) xi)) (λ_=> .int (iR (cx k/(gM nx ny nz cx cy cz o)))) (λxi=> .int (Ha nx cx (gM nx ny nz cx cy cz o) xi)) 23 (by omega) (by unfold maxLen;omega) (λi hi=>rfl) (λi hi=>by(obtain rfl:i=0:=(by omega));show AV.int (Ha _ _ _ _)=_;rw[Ha,if_pos (by omega)]<;>rfl) (λi hi j hj=>by obtain rfl:j=0:=(by omega);rfl) 20 (by kernel_rfl) (by kernel_rfl) 22 3 (by kernel_rfl) (by kernel_rfl)) ?_
 refine Ae 2 ?_
 refine Bx [6,8,10,15,18,59,60,66,67,68] ?_
 refine Ee [6,8,10,15,18,59,60,66,67,68] ⟨[(6,.ptr 0 0),(8,.ptr 2 0),(10,.ptr 3 0),(15,.ptr 4 0),(18,.ptr 4 3),(59,.agg [.ptr 4 3,.ptr 4 4,.ptr 4 5]),(60,.int 0),(66,Bf nx cx),(67,.int (nx:Int)),(68,.int (k:Int))],[(0,.box 142 [Bf nx cx,Bf ny cy,Bf nz cz]),(1,wB o),(2,sB),(3,wB (gM nx ny nz cx cy cz o)),(4,.box 67 [.int f,.int t,.int (iR (o/(gM nx ny nz cx cy cz o))),.osl 23 1 (k+1),.lit (.slice none 0 0),.lit (.slice none 0 0)]),(5,wB (o/(gM nx ny nz cx cy cz o))),(21,wB (cx k)),(22,.vec 3 1 1 (λ_=> .int (iR (cx k/(gM nx ny nz cx cy cz o))))),(23,.vec 3 1 (k+1) (λxi=> .int (Ha nx cx (gM nx ny nz cx cy cz o) xi)))],24,98⟩ ?_
 refine Hg [(0,0),(1,1),(2,2),(3,3),(4,4),(5,5),(23,20)] 21 0 hA0 _ (Av (Av (Av (Av (Av (Av (Av (Ck (λi _ j hj=>by obtain rfl:j=0:=(by omega);rfl) (Ck (λi _ j hj=>by obtain rfl:j=0:=(by omega);rfl) Cx))))))))) ?_
 refine Bi (qw ((k:Int)+1) ((k+1:Nat):Int) ?_)
 refine Ae 1 ?_
 refine Bx [6,8,10,15,18,59,60,66,67,68] ?_
 exact⟨_,(by omega:nx-(k+1)<nx-k),k+1,(by omega),rfl,trivial,.inr ⟨Nat.succ_pos _,(by kernel_rfl)⟩⟩
 have hx7d:=of_decide_eq_false hx7
 refine qF hx7 ?_
 refine Co (Jo 20 4 3 3 1 k (λxi=> .int (Ha nx cx (gM nx ny nz cx cy cz o) xi)) 67 [.int f,.int t,.int (iR (o/(gM nx ny nz cx cy cz o))),.osl 20 1 k,.lit (.slice none 0 0),.lit (.slice none 0 0)] [.int f,.int t,.int (iR (o/(gM nx ny nz cx cy cz o))),.sl 1 k (λxi=> .int (Ha nx cx (gM nx ny nz cx cy cz o) xi)),.lit (.slice none 0 0),.lit (.slice none 0 0)] (by kernel_rfl) (by kernel_rfl) (by kernel_rfl) (by kernel_rfl) (by kernel_rfl) (λi _ j hj=>by obtain rfl:j=0:=(by omega);rfl) ?_)
 have hke:k=max nx 1:=by omega
 subst hke
 refine dB 30 (Nat.le_of_ble_eq_true (by kernel_rfl)) ?_
 refine Ab (Ae 3 ?_)
 refine Bl (.int ((max nx 1:Nat):Int)) (Dg (.tmp 90) 65 #[65] underlying65 (max nx 1) (.inl ⟨1,(λxi=> .int (Ha nx cx (gM nx ny nz cx cy cz o) xi)),by kernel_rfl⟩)) ?_
 refine Bl (.bool false) (Dx (v:= .bool (decide (((max nx 1:Nat):Int)=0))) (v':= .bool false) (congrArg Value.bool (decide_eq_false (by omega))) _) ?_
 refine As [6,8,10,15,18,59,60,92] ?_
 refine Bq (Ee [6,8,10,15,59,60] ⟨[(6,.ptr 0 0),(8,.ptr 2 0),(10,.ptr 3 0),(15,.ptr 4 0),(59,.agg [.ptr 4 3,.ptr 4 4,.ptr 4 5]),(60,.int 0)],[(0,.box 142 [Bf nx cx,Bf ny cy,Bf nz cz]),(1,wB o),(2,sB),(3,wB (gM nx ny nz cx cy cz o)),(4,.box 67 [.int f,.int t,.int (iR (o/(gM nx ny nz cx cy cz o))),.sl 1 (max nx 1) (λxi=> .int (Ha nx cx (gM nx ny nz cx cy cz o) xi)),.lit (.slice none 0 0),.lit (.slice none 0 0)]),(5,wB (o/(gM nx ny nz cx cy cz o)))],30,98⟩ ?_)
 refine Aw ?_
 exact uB (by kernel_rfl)
def Td (n:Nat) (c:Nat->Int) (g:Int):List Int:=(List.range (max n 1)).map (Ha n c g)
theorem fZ (n:Nat) (c:Nat->Int) (g:Int) (i:Nat):(Td n c g).getD i 0=Ha n c g i:=by
 unfold Td
 rw[List.getD_eq_getElem?_getD,List.getElem?_map]
 by_cases h:i<max n 1
 rw[List.getElem?_range h];rfl
 rw[List.getElem?_eq_none (by simp;omega)]
 show (0:Int)=_
 unfold Ha
 rw[if_neg (by omega)]
theorem Ob (n:Nat) (c:Nat->Int) (g:Int):(Td n c g).length=max n 1:=by simp[Td]
def lF (f t:Int) (nx ny nz:Nat) (cx cy cz:Nat->Int) (o:Int):Sg:=⟨f,t,iR (o/gM nx ny nz cx cy cz o),Td nx cx (gM nx ny nz cx cy cz o),Td ny cy (gM nx ny nz cx cy cz o),Td nz cz (gM nx ny nz cx cy cz o)⟩
def rI (nx ny nz:Nat) (cx cy cz:Nat->Int) (o:Int):Bool:=decide ((0:Int)<(o/gM nx ny nz cx cy cz o-4294967296).sign)
theorem zH {f t:Int} {nx ny nz:Nat} {cx cy cz:Nat->Int} {o:Int} (h:rI nx ny nz cx cy cz o=false):Xz f t nx ny nz cx cy cz o= .tup [Bs (lF f t nx ny nz cx cy cz o),.bool true]:=by
 unfold Xz lF
 rw[if_neg (of_decide_eq_false h)]
 have key:∀n c,(AV.sl 1 (max n 1) λxi=> .int (Ha n c (gM nx ny nz cx cy cz o) xi))=Bc (Td n c (gM nx ny nz cx cy cz o)):=λn c=>by
  show _=AV.sl 1 (Td n c (gM nx ny nz cx cy cz o)).length λxi=> .int ((Td n c (gM nx ny nz cx cy cz o)).getD xi 0)
  rw[Ob,show (λxi=>AV.int ((Td n c (gM nx ny nz cx cy cz o)).getD xi 0))=λxi=> .int (Ha n c (gM nx ny nz cx cy cz o) xi) from funext λxi=>by rw[fZ]]
 rw[key,key,key]
theorem zG {f t:Int} {nx ny nz:Nat} {cx cy cz:Nat->Int} {o:Int} (h:rI nx ny nz cx cy cz o=true):Xz f t nx ny nz cx cy cz o= .lit (.tuple #[.agg #[.int .i64 f,.int .i64 t,.int .i64 0,.slice none 0 0,.slice none 0 0,.slice none 0 0],.bool false]):=by
 unfold Xz
 rw[if_pos (of_decide_eq_true h)]
abbrev pD (s:Sg):Int:=s.t-s.f
def Cu (s:Sg) (a b:Int):Sg:=lF a b (on s.x (a-s.f) (b-a) (pD s)) (on s.y (a-s.f) (b-a) (pD s)) (on s.z (a-s.f) (b-a) (pD s)) (oc s.x (a-s.f) (b-a) (pD s)) (oc s.y (a-s.f) (b-a) (pD s)) (oc s.z (a-s.f) (b-a) (pD s)) (s.o*pD s^5)
def Vv (s:Sg) (a b:Int):Bool:=rI (on s.x (a-s.f) (b-a) (pD s)) (on s.y (a-s.f) (b-a) (pD s)) (on s.z (a-s.f) (b-a) (pD s)) (oc s.x (a-s.f) (b-a) (pD s)) (oc s.y (a-s.f) (b-a) (pD s)) (oc s.z (a-s.f) (b-a) (pD s)) (s.o*pD s^5)
theorem Cr {x:Int} (h: -3600000<=x/\x<=3600000):Cj x:=⟨by omega,by omega⟩
theorem pW (s:Sg) (a b:Int) (hs:Nz s) (ho:Gm s) (ha:s.f<=a/\a<=s.t) (hb:a<=b/\b<=s.t):AF Tryz.prog 76 [.int a,.int b,.agg [Ge s.x (a-s.f) (b-a) (pD s),Ge s.y (a-s.f) (b-a) (pD s),Ge s.z (a-s.f) (b-a) (pD s)],WA (s.o*pD s^5)] (Xz a b (on s.x (a-s.f) (b-a) (pD s)) (on s.y (a-s.f) (b-a) (pD s)) (on s.z (a-s.f) (b-a) (pD s)) (oc s.x (a-s.f) (b-a) (pD s)) (oc s.y (a-s.f) (b-a) (pD s)) (oc s.z (a-s.f) (b-a) (pD s)) (s.o*pD s^5)):=by
 have hh:=ho.1
 unfold Iu at hh
 have h1:Cj (a-s.f):=Cr (by omega)
 have h2:Cj (b-a):=Cr (by omega)
 have h3:Cj (pD s):=Cr (by show -3600000<=s.t-s.f/\s.t-s.f<=3600000;omega)
 have hx:=ho.2.1.2.1
 have hy:=ho.2.2.1.2.1
 have hz:=ho.2.2.2.1.2.1
 refine AaB a b _ _ _ _ _ _ _ (eR _ _ _ _ hx) (eR _ _ _ _ hy) (eR _ _ _ _ hz) (λi _=>eP hs.x hx h1 h2 h3 i) (λi _=>eP hs.y hy h1 h2 h3 i) (λi _=>eP hs.z hz h1 h2 h3 i) ((Ug hs h3).mono (by omega)) ?_
 exact Int.mul_pos (by omega) (Int.pow_pos (by show 0<s.t-s.f;omega))
theorem Zk (s:Sg) (a b:Int) (hs:Nz s) (ho:Gm s) (ha:s.f<=a/\a<=s.t) (hb:a<=b/\b<=s.t) (h:Vv s a b=false):AF Tryz.prog 76 [.int a,.int b,.agg [Ge s.x (a-s.f) (b-a) (pD s),Ge s.y (a-s.f) (b-a) (pD s),Ge s.z (a-s.f) (b-a) (pD s)],WA (s.o*pD s^5)] (.tup [Bs (Cu s a b),.bool true]):=by
 have:=pW s a b hs ho ha hb
 rwa [zH h] at this
theorem Zj (s:Sg) (a b:Int) (hs:Nz s) (ho:Gm s) (ha:s.f<=a/\a<=s.t) (hb:a<=b/\b<=s.t) (h:Vv s a b=true):AF Tryz.prog 76 [.int a,.int b,.agg [Ge s.x (a-s.f) (b-a) (pD s),Ge s.y (a-s.f) (b-a) (pD s),Ge s.z (a-s.f) (b-a) (pD s)],WA (s.o*pD s^5)] (.lit (.tuple #[.agg #[.int .i64 a,.int .i64 b,.int .i64 0,.slice none 0 0,.slice none 0 0,.slice none 0 0],.bool false])):=by
 have:=pW s a b hs ho ha hb
 rwa [zG h] at this
theorem Lw (s:Sg) (a b d:Int) (hs:Nz s) (ho:Gm s) (ha:Cj a) (hb:Cj b) (hd:Cj d) (hdp:0<d):AF Tryz.prog 77 [Bs s,.int a,.int b,.int d] (.agg [Ge s.x a b d,Ge s.y a b d,Ge s.z a b d]):=
 jI s a b d hs ho.2.1.1 ho.2.1.2.1 ho.2.2.1.1 ho.2.2.1.2.1 ho.2.2.2.1.1 ho.2.2.2.1.2.1 ha hb hd hdp
abbrev pA (l:List Sg) (f:Int) (i:Nat):Int:=max f (l.getD i Sg.none).f
abbrev pB (l:List Sg) (t:Int) (i:Nat):Int:=min t (l.getD i Sg.none).t
def Hr (l:List Sg) (f t:Int):Nat->List Sg
 |0=>[]
 |i+1=>if pA l f i<pB l t i then Hr l f t i++[Cu (l.getD i Sg.none) (pA l f i) (pB l t i)] else Hr l f t i
def Xr (l:List Sg) (f t:Int) (i:Nat):Prop:=∀j,j<i->pA l f j<pB l t j->Vv (l.getD j Sg.none) (pA l f j) (pB l t j)=false
theorem So {l:List Sg} {f t:Int} {i:Nat} (h:¬pA l f i<pB l t i):Hr l f t (i+1)=Hr l f t i:=by rw[Hr,if_neg h]
theorem Ml {l:List Sg} {f t:Int} {i:Nat} (h:pA l f i<pB l t i):Hr l f t (i+1)=Hr l f t i++[Cu (l.getD i Sg.none) (pA l f i) (pB l t i)]:=by rw[Hr,if_pos h]
theorem aA {l:List Sg} {f t:Int} {i:Nat} (h:¬pA l f i<pB l t i) (hk:Xr l f t i):Xr l f t (i+1):=λj hj h2=>by
 by_cases e:j=i
 subst e;exact absurd h2 h
 exact hk j (by omega) h2
theorem dQ {l:List Sg} {f t:Int} {i:Nat} (h:Vv (l.getD i Sg.none) (pA l f i) (pB l t i)=false) (hk:Xr l f t i):Xr l f t (i+1):=λj hj h2=>by
 by_cases e:j=i
 subst e;exact h
 exact hk j (by omega) h2
theorem kH (l:List Sg) (f t:Int):∀i,(Hr l f t i).length<=i
 |0=>Nat.le_refl _
 |i+1=>by
  have:=kH l f t i
  rw[Hr]
  split
  rw[List.length_append];simp;omega
  omega
open Classical in
noncomputable def My (l:List Sg) (f t:Int):List Sg×Int:=if Xr l f t l.length then (Hr l f t l.length,0) else ([],7)
theorem qN {l:List Sg} {f t:Int} (h:Xr l f t l.length):My l f t=(Hr l f t l.length,0):=if_pos h
theorem qM {l:List Sg} {f t:Int} {j:Nat} (hj:j<l.length) (h1:pA l f j<pB l t j) (h2:Vv (l.getD j Sg.none) (pA l f j) (pB l t j)=true):My l f t=([],7):=if_neg λh=>by
 have:=h j hj h1
 rw[h2] at this;cases this
theorem AaA (l:List Sg) (f t:Int) (hl:Cm l) (hok:Dz l) (hf:0<=f/\f<=3600000) (ht:0<=t/\t<=3600000) (hpos:0<(Hr l f t l.length).length):AF Tryz.prog 43 [Bj l,.int f,.int t] (Qp (My l f t)):=by
 have hln:=hok.2
 refine Dl ⟨[(0,Bj l),(1,.int f),(2,.int t)],[],0,23⟩ func43 rfl 23 ntmps43 (by kernel_rfl) (by kernel_rfl) λB D0 hA0=>?_
 refine Bu 2 [0,1,2,6,7] ?_
 refine Al (Ab ?_)
 refine Ae 3 ?_
 refine Fa 58 [Bj l,.int f,.int t] 8 rfl (by kernel_rfl) (Ps 58 #[.tmp 10,.tmp 11,.tmp 12] #[41,3,3] (by kernel_rfl) (λ_ _=>by kernel_rfl) _ (by kernel_rfl)) func58 rfl ntmps58 (by kernel_rfl) λ_ hD1=>?_
 refine Bu 4 [3,4,5] ?_
 refine Ab (Bl (.fn 75 [.ptr 2 0,.ptr 3 0,.ptr 4 0]) (lT 75 #[.tmp 3,.tmp 4,.tmp 5] [.ptr 2 0,.ptr 3 0,.ptr 4 0]) ?_)
 refine Ae 1 ?_
 refine As [6] ?_
 refine Be ?_
 refine⟨.inl rfl,.fn 75 [.ptr 2 0,.ptr 3 0,.ptr 4 0],(Aca results58 (Fn (x:= .fn 75 [.ptr 2 0,.ptr 3 0,.ptr 4 0]) (by kernel_rfl))).castI (by kernel_rfl),?_⟩
 refine As [6,7,13] ?_
 refine Bb (wG 75 [.ptr 2 0,.ptr 3 0,.ptr 4 0] 62 (by kernel_rfl) (λ_ _=>by kernel_rfl) func75 rfl ntmps75 (by kernel_rfl) λsp2 sp2p sp2a sp2b _ hD3=>?_)
 refine Ab (Ae 1 ?_)
 refine Bl (.int ((l).length:Int)) (Dg (.tmp 12) 41 #[41] underlying41 ((l).length) (.inl ⟨6,(λi0=>Bs ((l).getD i0 Sg.none)),by kernel_rfl⟩)) ?_
 refine Ae 1 ?_
 refine As [0,2,3,12,13,14] ?_
 refine Bb (Cn (λm s=>∃r n,r<=l.length/\m=l.length-r/\(n=(Hr l f t r).length/\Xr l f t r/\n<=r)/\(((n=0)/\s=⟨[(0,.yld 5),(2,.ptr 3 0),(3,.ptr 4 0),(12,Bj l),(13,.int ((l).length:Int)),(14,.int (r:Int))],[(0,.box 41 [.lit (.slice none 0 0)]),(1,.box 32 [.int 0]),(2,.box 41 [Bj l]),(3,.box 3 [.int f]),(4,.box 3 [.int t]),(5,.loop .ready none sp2 [(6,.ptr 0 0),(7,.ptr 1 0),(13,.fn 75 [.ptr 2 0,.ptr 3 0,.ptr 4 0])] 23)],6,62⟩)\/((0<n)/\s=⟨[(0,.yld 5),(2,.ptr 3 0),(3,.ptr 4 0),(12,Bj l),(13,.int ((l).length:Int)),(14,.int (r:Int))],[(0,.box 41 [.osl 50 6 n]),(1,.box 32 [.int 0]),(2,.box 41 [Bj l]),(3,.box 3 [.int f]),(4,.box 3 [.int t]),(5,.loop .ready none sp2 [(6,.ptr 0 0),(7,.ptr 1 0),(13,.fn 75 [.ptr 2 0,.ptr 3 0,.ptr 4 0])] 23),(50,.vec 67 6 n (λxi=>Bs ((Hr l f t r).getD xi Sg.none)))],51,62⟩))) l.length ⟨0,0,Nat.zero_le _,rfl,⟨rfl,λj hj=>absurd hj (Nat.not_lt_zero j),Nat.le_refl _⟩,(.inl ⟨rfl,(by kernel_rfl)⟩)⟩ ?_)
 rintro _ _ ⟨r,n,hrn,rfl,hFr,(⟨hr0,rfl⟩|⟨hr0,rfl⟩)⟩
 refine Ab (qb (decide ((r:Int)<((l).length:Int))) ?_)
 refine As [0,2,3,12,13,14,15] ?_
 refine Al ?_
 refine Ao (decide ((r:Int)<((l).length:Int))) (λhx4=>?_) (λhx4=>?_)
 have hx4d:=of_decide_eq_true hx4
 refine qT hx4 ?_
 refine Aw (Al ?_)
 refine Bb ?_
 have hso:=(hok.1 r (by omega)).1
 have hs:=hl.2 r
 have hh:=hso.1
 unfold Iu at hh
 have hA:pA l f r=max f ((l).getD r Sg.none).f:=rfl
 have hB:pB l t r=min t ((l).getD r Sg.none).t:=rfl
 have hD:pD ((l).getD r Sg.none)=((l).getD r Sg.none).t-((l).getD r Sg.none).f:=rfl
 refine Ab (Bl (.elt 6 (λq=>AV.cell (Bs ((l).getD r Sg.none)) q)) (Bk 41 (.tmp 12) (.tmp 14) underlying41 6 ((l).length) r (λi0=>Bs ((l).getD i0 Sg.none)) (r:Int) sizeOf67) ?_)
 refine Ae 3 ?_
 refine As [0,2,3,6,12,13,14] ?_
 refine Dk [(3,.int (max f (((l).getD r Sg.none).f)),.none),(7,.int (min t (((l).getD r Sg.none).t)),.none)] [0,2,3,6,7,8,12,13,14] 7 ⟨?_,?_,trivial⟩ ?_
 exact Bn (Vs (.tmp 18) (.tmp 20) #[3,3] (by kernel_rfl) f (((l).getD r Sg.none).f) (by kernel_rfl) (by kernel_rfl))
 exact Bn (rP (.tmp 22) (.tmp 24) #[3,3] (by kernel_rfl) t (((l).getD r Sg.none).t) (by kernel_rfl) (by kernel_rfl))
 refine Al (Ab ?_)
 refine Ae 2 ?_
 refine qb (decide (min t (((l).getD r Sg.none).t)<=max f (((l).getD r Sg.none).f))) ?_
 refine As [0,2,3,6,7,8,12,13,14,28] ?_
 refine Ao (decide (min t (((l).getD r Sg.none).t)<=max f (((l).getD r Sg.none).f))) (λhx5=>?_) (λhx5=>?_)
 have hx5d:=of_decide_eq_true hx5
 refine qT hx5 ?_
 refine Co (Ee [0,2,3,6,7,8,12,13,14,28] ⟨[(0,.yld 5),(2,.ptr 3 0),(3,.ptr 4 0),(6,.ptr 6 0),(7,.int (max f (((l).getD r Sg.none).f))),(8,.int (min t (((l).getD r Sg.none).t))),(12,Bj l),(13,.int ((l).length:Int)),(14,.int (r:Int)),(28,.bool true)],[(0,.box 41 [.lit (.slice none 0 0)]),(1,.box 32 [.int 0]),(2,.box 41 [Bj l]),(3,.box 3 [.int f]),(4,.box 3 [.int t]),(5,.loop .ready none sp2 [(6,.ptr 0 0),(7,.ptr 1 0),(13,.fn 75 [.ptr 2 0,.ptr 3 0,.ptr 4 0])] 23),(6,.box 67 [.int (((l).getD r Sg.none).f),.int (((l).getD r Sg.none).t),.int (((l).getD r Sg.none).o),Bc (((l).getD r Sg.none).x),Bc (((l).getD r Sg.none).y),Bc (((l).getD r Sg.none).z)])],7,62⟩ ?_)
 refine Hg [(0,0),(1,1),(2,2),(3,3),(4,4),(5,5)] 6 6 hD3 _ (Av (Av (Av (Av (Av (Pk (Av Cx))))))) ?_
 refine Bi (qw ((r:Int)+1) ((r+1:Nat):Int) ?_)
 refine Ae 1 ?_
 refine Bx [0,2,3,12,13,14] ?_
 exact⟨_,(by omega:l.length-(r+1)<l.length-r),r+1,0,(by omega),rfl,⟨by rw[So (by omega)];omega,aA (by omega) hFr.2.1,by omega⟩,(.inl ⟨by omega,(by kernel_rfl)⟩)⟩
 have hx5d:=of_decide_eq_false hx5
 refine qF hx5 ?_
 refine Aw ?_
 have hlt:pA l f r<pB l t r:=by omega
 refine Ab (Ae 4 ?_)
 refine qv (((l).getD r Sg.none).t-((l).getD r Sg.none).f) ?_
 refine Ae 1 ?_
 refine As [0,2,3,6,7,8,9,12,13,14] ?_
 refine Ao (Vv ((l).getD r Sg.none) (pA l f r) (pB l t r)) (λhx6=>?_) (λhx6=>?_)
 refine Dk [(6,.int (max f (((l).getD r Sg.none).f)-((l).getD r Sg.none).f),.none),(9,.int (min t (((l).getD r Sg.none).t)-max f (((l).getD r Sg.none).f)),.none),(11,.agg [Ge ((l).getD r Sg.none).x (pA l f r-((l).getD r Sg.none).f) (pB l t r-pA l f r) (pD ((l).getD r Sg.none)),Ge ((l).getD r Sg.none).y (pA l f r-((l).getD r Sg.none).f) (pB l t r-pA l f r) (pD ((l).getD r Sg.none)),Ge ((l).getD r Sg.none).z (pA l f r-((l).getD r Sg.none).f) (pB l t r-pA l f r) (pD ((l).getD r Sg.none))],.none),(14,.lit (Ai (((l).getD r Sg.none).o)),.none),(16,.lit (Ai (pD ((l).getD r Sg.none)^5)),.none),(17,.lit (Ai (((l).getD r Sg.none).o*pD ((l).getD r Sg.none)^5)),.none),(18,.lit (.tuple #[.agg #[.int .i64 (pA l f r),.int .i64 (pB l t r),.int .i64 0,.slice none 0 0,.slice none 0 0,.slice none 0 0],.bool false]),.none),(20,.lit (.agg #[.int .i64 (pA l f r),.int .i64 (pB l t r),.int .i64 0,.slice none 0 0,.slice none 0 0,.slice none 0 0]),.none),(21,.bool false,.none)] [0,2,3,10,11,12,13,14] 8 ⟨?_,?_,?_,?_,?_,?_,?_,?_,?_,trivial⟩ ?_
 exact Yk (max f (((l).getD r Sg.none).f)-((l).getD r Sg.none).f)
 exact Yk (min t (((l).getD r Sg.none).t)-max f (((l).getD r Sg.none).f))
 exact Bn (Br 77 #[.tmp 37,.tmp 41,.tmp 44,.tmp 45] #[67,3,3,3] [Bs ((l).getD r Sg.none),.int (max f (((l).getD r Sg.none).f)-((l).getD r Sg.none).f),.int (min t (((l).getD r Sg.none).t)-max f (((l).getD r Sg.none).f)),.int (((l).getD r Sg.none).t-((l).getD r Sg.none).f)] (.agg [Ge ((l).getD r Sg.none).x (pA l f r-((l).getD r Sg.none).f) (pB l t r-pA l f r) (pD ((l).getD r Sg.none)),Ge ((l).getD r Sg.none).y (pA l f r-((l).getD r Sg.none).f) (pB l t r-pA l f r) (pD ((l).getD r Sg.none)),Ge ((l).getD r Sg.none).z (pA l f r-((l).getD r Sg.none).f) (pB l t r-pA l f r) (pD ((l).getD r Sg.none))]) (Lw ((l).getD r Sg.none) _ _ _ hs hso (Cr (by omega)) (Cr (by omega)) (Cr (by omega)) (by omega)))
 exact Bn (Br 79 #[.tmp 48] #[3] [.int (((l).getD r Sg.none).o)] (.lit (Ai (((l).getD r Sg.none).o))) (Hh _ hs.o.1 hs.o.2))
 exact Oi (Hc (pD ((l).getD r Sg.none)) 5 (Cr (by omega)).1 (Cr (by omega)).2 (by omega) (λj hj=>Fl (Cr (by omega)) (by omega)))
 exact Bn (Br 78 #[.tmp 49,.tmp 51] #[96,96] [.lit (Ai (((l).getD r Sg.none).o)),.lit (Ai (pD ((l).getD r Sg.none)^5))] (.lit (Ai (((l).getD r Sg.none).o*pD ((l).getD r Sg.none)^5))) (Kg _ _ (Iq hs.o) (Fl (Cr (by omega)) (by omega)) ((Ug hs (Cr (by omega))).fit (by omega))))
 exact Bn (Br 76 #[.tmp 35,.tmp 36,.tmp 46,.tmp 52] #[3,3,142,96] [.int (max f (((l).getD r Sg.none).f)),.int (min t (((l).getD r Sg.none).t)),.agg [Ge ((l).getD r Sg.none).x (pA l f r-((l).getD r Sg.none).f) (pB l t r-pA l f r) (pD ((l).getD r Sg.none)),Ge ((l).getD r Sg.none).y (pA l f r-((l).getD r Sg.none).f) (pB l t r-pA l f r) (pD ((l).getD r Sg.none)),Ge ((l).getD r Sg.none).z (pA l f r-((l).getD r Sg.none).f) (pB l t r-pA l f r) (pD ((l).getD r Sg.none))],.lit (Ai (((l).getD r Sg.none).o*pD ((l).getD r Sg.none)^5))] (.lit (.tuple #[.agg #[.int .i64 (pA l f r),.int .i64 (pB l t r),.int .i64 0,.slice none 0 0,.slice none 0 0,.slice none 0 0],.bool false])) (Zj ((l).getD r Sg.none) _ _ hs hso (by omega) (by omega) hx6))
 exact Bn (Dx (v:= .agg #[.int .i64 (pA l f r),.int .i64 (pB l t r),.int .i64 0,.slice none 0 0,.slice none 0 0,.slice none 0 0]) (v':= .agg #[.int .i64 (pA l f r),.int .i64 (pB l t r),.int .i64 0,.slice none 0 0,.slice none 0 0,.slice none 0 0]) rfl _)
 exact uZ
 refine Ab (Ae 3 ?_)
 refine Ut (.tmp 56) #[.tmp 57,.tmp 58] #[67,4] 5 [(6,.ptr 0 0),(7,.ptr 1 0),(13,.fn 75 [.ptr 2 0,.ptr 3 0,.ptr 4 0])] 23 [.lit (.agg #[.int .i64 (pA l f r),.int .i64 (pB l t r),.int .i64 0,.slice none 0 0,.slice none 0 0,.slice none 0 0]),.bool false] sp2p sp2a sp2b rfl (by kernel_rfl) rfl (by kernel_rfl) (by kernel_rfl) (by kernel_rfl) (by kernel_rfl) ⟨[(15,.bool false),(14,.lit (.agg #[.int .i64 (pA l f r),.int .i64 (pB l t r),.int .i64 0,.slice none 0 0,.slice none 0 0,.slice none 0 0])),(6,.ptr 0 0),(7,.ptr 1 0),(13,.fn 75 [.ptr 2 0,.ptr 3 0,.ptr 4 0])],[(0,.box 41 [.lit (.slice none 0 0)]),(1,.box 32 [.int 0]),(2,.box 41 [Bj l]),(3,.box 3 [.int f]),(4,.box 3 [.int t]),(5,.loop .ready none sp2 [(6,.ptr 0 0),(7,.ptr 1 0),(13,.fn 75 [.ptr 2 0,.ptr 3 0,.ptr 4 0])] 23),(6,.box 67 [.int (((l).getD r Sg.none).f),.int (((l).getD r Sg.none).t),.int (((l).getD r Sg.none).o),Bc (((l).getD r Sg.none).x),Bc (((l).getD r Sg.none).y),Bc (((l).getD r Sg.none).z)]),(7,.box 67 [.int (pA l f r),.int (pB l t r),.int 0,.lit (.slice none 0 0),.lit (.slice none 0 0),.lit (.slice none 0 0)])],8,23⟩ (by kernel_rfl) λ_ _ hD7=>?_
 refine Bu 2 [6,7,8,15] ?_
 refine Bi (Ae 1 ?_)
 refine Bx [6,7,8,9] ?_
 refine⟨[(6,.ptr 0 0),(7,.ptr 1 0),(13,.fn 75 [.ptr 2 0,.ptr 3 0,.ptr 4 0])],(by kernel_rfl),?_⟩
 refine Bb (Al ?_)
 refine Ab (Ae 1 ?_)
 refine qb true ?_
 refine As [6,7,8,17] ?_
 refine Ca (Bu 2 [6,7] ?_)
 refine Be ?_
 refine⟨[(6,.ptr 0 0),(7,.ptr 1 0),(13,.fn 75 [.ptr 2 0,.ptr 3 0,.ptr 4 0])],(by kernel_rfl),?_⟩
 refine qb true ?_
 refine As [0,2,3,12,13,14,60] ?_
 refine Ca (Be ?_)
 refine⟨.inl rfl,.lit (.tuple #[]),(Fh results75).castI (by kernel_rfl),.done,(some .ret),[(6,.ptr 0 0),(7,.ptr 1 0),(13,.fn 75 [.ptr 2 0,.ptr 3 0,.ptr 4 0])],23,(by kernel_rfl),(λh=>by cases h),?_⟩
 refine Be ?_
 exact⟨.inl rfl,(Cv results43 (Kv (x:= .lit (.slice none 0 0)) 0 isAgg41 0 [.lit (.slice none 0 0)] (by kernel_rfl) 41 (by kernel_rfl) (Nat.le_of_ble_eq_true (by kernel_rfl)) (by kernel_rfl) (by kernel_rfl)) (Kv (x:= .int 7) 1 isAgg32 0 [.int 7] (by kernel_rfl) 32 (by kernel_rfl) (Nat.le_of_ble_eq_true (by kernel_rfl)) (by kernel_rfl) (by kernel_rfl))).cast (Mq (qM (j:=r) (by omega) hlt hx6) (by decide)).symm⟩
 refine Dk [(6,.int (max f (((l).getD r Sg.none).f)-((l).getD r Sg.none).f),.none),(9,.int (min t (((l).getD r Sg.none).t)-max f (((l).getD r Sg.none).f)),.none),(11,.agg [Ge ((l).getD r Sg.none).x (pA l f r-((l).getD r Sg.none).f) (pB l t r-pA l f r) (pD ((l).getD r Sg.none)),Ge ((l).getD r Sg.none).y (pA l f r-((l).getD r Sg.none).f) (pB l t r-pA l f r) (pD ((l).getD r Sg.none)),Ge ((l).getD r Sg.none).z (pA l f r-((l).getD r Sg.none).f) (pB l t r-pA l f r) (pD ((l).getD r Sg.none))],.none),(14,.lit (Ai (((l).getD r Sg.none).o)),.none),(16,.lit (Ai (pD ((l).getD r Sg.none)^5)),.none),(17,.lit (Ai (((l).getD r Sg.none).o*pD ((l).getD r Sg.none)^5)),.none),(18,.tup [Bs (Cu ((l).getD r Sg.none) (pA l f r) (pB l t r)),.bool true],.none)] [0,2,3,10,11,12,13,14] 8 ⟨?_,?_,?_,?_,?_,?_,?_,trivial⟩ ?_
 exact Yk (max f (((l).getD r Sg.none).f)-((l).getD r Sg.none).f)
 exact Yk (min t (((l).getD r Sg.none).t)-max f (((l).getD r Sg.none).f))
 exact Bn (Br 77 #[.tmp 37,.tmp 41,.tmp 44,.tmp 45] #[67,3,3,3] [Bs ((l).getD r Sg.none),.int (max f (((l).getD r Sg.none).f)-((l).getD r Sg.none).f),.int (min t (((l).getD r Sg.none).t)-max f (((l).getD r Sg.none).f)),.int (((l).getD r Sg.none).t-((l).getD r Sg.none).f)] (.agg [Ge ((l).getD r Sg.none).x (pA l f r-((l).getD r Sg.none).f) (pB l t r-pA l f r) (pD ((l).getD r Sg.none)),Ge ((l).getD r Sg.none).y (pA l f r-((l).getD r Sg.none).f) (pB l t r-pA l f r) (pD ((l).getD r Sg.none)),Ge ((l).getD r Sg.none).z (pA l f r-((l).getD r Sg.none).f) (pB l t r-pA l f r) (pD ((l).getD r Sg.none))]) (Lw ((l).getD r Sg.none) _ _ _ hs hso (Cr (by omega)) (Cr (by omega)) (Cr (by omega)) (by omega)))
 exact Bn (Br 79 #[.tmp 48] #[3] [.int (((l).getD r Sg.none).o)] (.lit (Ai (((l).getD r Sg.none).o))) (Hh _ hs.o.1 hs.o.2))
 exact Oi (Hc (pD ((l).getD r Sg.none)) 5 (Cr (by omega)).1 (Cr (by omega)).2 (by omega) (λj hj=>Fl (Cr (by omega)) (by omega)))
 exact Bn (Br 78 #[.tmp 49,.tmp 51] #[96,96] [.lit (Ai (((l).getD r Sg.none).o)),.lit (Ai (pD ((l).getD r Sg.none)^5))] (.lit (Ai (((l).getD r Sg.none).o*pD ((l).getD r Sg.none)^5))) (Kg _ _ (Iq hs.o) (Fl (Cr (by omega)) (by omega)) ((Ug hs (Cr (by omega))).fit (by omega))))
 exact Bn (Br 76 #[.tmp 35,.tmp 36,.tmp 46,.tmp 52] #[3,3,142,96] [.int (max f (((l).getD r Sg.none).f)),.int (min t (((l).getD r Sg.none).t)),.agg [Ge ((l).getD r Sg.none).x (pA l f r-((l).getD r Sg.none).f) (pB l t r-pA l f r) (pD ((l).getD r Sg.none)),Ge ((l).getD r Sg.none).y (pA l f r-((l).getD r Sg.none).f) (pB l t r-pA l f r) (pD ((l).getD r Sg.none)),Ge ((l).getD r Sg.none).z (pA l f r-((l).getD r Sg.none).f) (pB l t r-pA l f r) (pD ((l).getD r Sg.none))],.lit (Ai (((l).getD r Sg.none).o*pD ((l).getD r Sg.none)^5))] (.tup [Bs (Cu ((l).getD r Sg.none) (pA l f r) (pB l t r)),.bool true]) (Zk ((l).getD r Sg.none) _ _ hs hso (by omega) (by omega) hx6))
 refine Ab (Ae 3 ?_)
 refine Ut (.tmp 56) #[.tmp 57,.tmp 58] #[67,4] 5 [(6,.ptr 0 0),(7,.ptr 1 0),(13,.fn 75 [.ptr 2 0,.ptr 3 0,.ptr 4 0])] 23 [Bs (Cu ((l).getD r Sg.none) (pA l f r) (pB l t r)),.bool true] sp2p sp2a sp2b rfl (by kernel_rfl) rfl (by kernel_rfl) (by kernel_rfl) (by kernel_rfl) (by kernel_rfl) ⟨[(15,.bool true),(14,Bs (Cu ((l).getD r Sg.none) (pA l f r) (pB l t r))),(6,.ptr 0 0),(7,.ptr 1 0),(13,.fn 75 [.ptr 2 0,.ptr 3 0,.ptr 4 0])],[(0,.box 41 [.lit (.slice none 0 0)]),(1,.box 32 [.int 0]),(2,.box 41 [Bj l]),(3,.box 3 [.int f]),(4,.box 3 [.int t]),(5,.loop .ready none sp2 [(6,.ptr 0 0),(7,.ptr 1 0),(13,.fn 75 [.ptr 2 0,.ptr 3 0,.ptr 4 0])] 23),(6,.box 67 [.int (((l).getD r Sg.none).f),.int (((l).getD r Sg.none).t),.int (((l).getD r Sg.none).o),Bc (((l).getD r Sg.none).x),Bc (((l).getD r Sg.none).y),Bc (((l).getD r Sg.none).z)]),(7,.box 67 [.int ((Cu ((l).getD r Sg.none) (pA l f r) (pB l t r)).f),.int ((Cu ((l).getD r Sg.none) (pA l f r) (pB l t r)).t),.int ((Cu ((l).getD r Sg.none) (pA l f r) (pB l t r)).o),Bc ((Cu ((l).getD r Sg.none) (pA l f r) (pB l t r)).x),Bc ((Cu ((l).getD r Sg.none) (pA l f r) (pB l t r)).y),Bc ((Cu ((l).getD r Sg.none) (pA l f r) (pB l t r)).z)])],8,23⟩ (by kernel_rfl) λ_ _ hD8=>?_
 refine Bu 2 [6,7,8,15] ?_
 refine Bi (Ae 1 ?_)
 refine Bx [6,7,8,9] ?_
 refine⟨[(6,.ptr 0 0),(7,.ptr 1 0),(13,.fn 75 [.ptr 2 0,.ptr 3 0,.ptr 4 0])],(by kernel_rfl),?_⟩
 refine Bb (Al ?_)
 refine Ab (Ae 1 ?_)
 refine qb false ?_
 refine As [6,7,8,17] ?_
 refine Bq (Aw ?_)
 refine Bi (Ae 2 ?_)
 refine Mw (.osl 9 6 1) (.new 9 (.vec 67 6 1 (λ_=>Bs (Cu ((l).getD r Sg.none) (pA l f r) (pB l t r))))) (Cp 41 1 #[(0,(.tmp 19))] underlying41 6 sizeOf67 _ zeroValue67 9 [.int ((Cu ((l).getD r Sg.none) (pA l f r) (pB l t r)).f),.int ((Cu ((l).getD r Sg.none) (pA l f r) (pB l t r)).t),.int ((Cu ((l).getD r Sg.none) (pA l f r) (pB l t r)).o),Bc ((Cu ((l).getD r Sg.none) (pA l f r) (pB l t r)).x),Bc ((Cu ((l).getD r Sg.none) (pA l f r) (pB l t r)).y),Bc ((Cu ((l).getD r Sg.none) (pA l f r) (pB l t r)).z)] (λ_=>Bs (Cu ((l).getD r Sg.none) (pA l f r) (pB l t r)))) ?_
 refine Mw (.osl 10 6 1) (.newr 9 10 (.vec 67 6 1 (λxi=>Bs ((Hr l f t (r+1)).getD xi Sg.none)))) (Ez (.tmp 18) (.tmp 20) 41 (by kernel_rfl) underlying41 6 96 (.agg #[.int .i64 0,.int .i64 0,.int .i64 0,.slice none 0 0,.slice none 0 0,.slice none 0 0]) (by kernel_rfl) (by kernel_rfl) (by decide) 1 (by omega) (λ_=>Bs (Cu ((l).getD r Sg.none) (pA l f r) (pB l t r))) (λxi=>Bs ((Hr l f t (r+1)).getD xi Sg.none)) 10 (λi hi=>by(obtain rfl:i=0:=(by omega));show Bs _=Bs _;rw[Ml hlt,List.eq_nil_of_length_eq_zero (by omega:(Hr l f t r).length=0)];rfl) (λi hi j hj=>match j,hj with|0,_=>rfl|1,_=>rfl|2,_=>rfl|3,_=>rfl|4,_=>rfl|5,_=>rfl|_+6,h=>absurd h (by omega)) (by unfold maxLen;omega) (by omega) (by kernel_rfl) 9 67 (by kernel_rfl) (by kernel_rfl)) ?_
 refine Ae 1 ?_
 refine Bx [] ?_
 refine⟨[(6,.ptr 0 0),(7,.ptr 1 0),(13,.fn 75 [.ptr 2 0,.ptr 3 0,.ptr 4 0])],(by kernel_rfl),?_⟩
 refine qb false ?_
 refine As [0,2,3,12,13,14,60] ?_
 refine Bq (Aw ?_)
 refine Ee [0,2,3,12,13,14,60] ⟨[(0,.yld 5),(2,.ptr 3 0),(3,.ptr 4 0),(12,Bj l),(13,.int ((l).length:Int)),(14,.int (r:Int)),(60,.bool false)],[(0,.box 41 [.osl 10 6 1]),(1,.box 32 [.int 0]),(2,.box 41 [Bj l]),(3,.box 3 [.int f]),(4,.box 3 [.int t]),(5,.loop .ready none sp2 [(6,.ptr 0 0),(7,.ptr 1 0),(13,.fn 75 [.ptr 2 0,.ptr 3 0,.ptr 4 0])] 23),(6,.box 67 [.int (((l).getD r Sg.none).f),.int (((l).getD r Sg.none).t),.int (((l).getD r Sg.none).o),Bc (((l).getD r Sg.none).x),Bc (((l).getD r Sg.none).y),Bc (((l).getD r Sg.none).z)]),(7,.box 67 [.int ((Cu ((l).getD r Sg.none) (pA l f r) (pB l t r)).f),.int ((Cu ((l).getD r Sg.none) (pA l f r) (pB l t r)).t),.int ((Cu ((l).getD r Sg.none) (pA l f r) (pB l t r)).o),Bc ((Cu ((l).getD r Sg.none) (pA l f r) (pB l t r)).x),Bc ((Cu ((l).getD r Sg.none) (pA l f r) (pB l t r)).y),Bc ((Cu ((l).getD r Sg.none) (pA l f r) (pB l t r)).z)]),(8,.box 67 [.int ((Cu ((l).getD r Sg.none) (pA l f r) (pB l t r)).f),.int ((Cu ((l).getD r Sg.none) (pA l f r) (pB l t r)).t),.int ((Cu ((l).getD r Sg.none) (pA l f r) (pB l t r)).o),Bc ((Cu ((l).getD r Sg.none) (pA l f r) (pB l t r)).x),Bc ((Cu ((l).getD r Sg.none) (pA l f r) (pB l t r)).y),Bc ((Cu ((l).getD r Sg.none) (pA l f r) (pB l t r)).z)]),(9,.vec 67 6 1 (λ_=>Bs (Cu ((l).getD r Sg.none) (pA l f r) (pB l t r)))),(10,.vec 67 6 1 (λxi=>Bs ((Hr l f t (r+1)).getD xi Sg.none)))],11,62⟩ ?_
 refine Hg [(0,0),(1,1),(2,2),(3,3),(4,4),(5,5),(10,50)] 51 6 hD3 _ (Av (Av (Av (Av (Av (Pk (Av (Av (Av (Ck (λi _ j hj=>match j,hj with|0,_=>rfl|1,_=>rfl|2,_=>rfl|3,_=>rfl|4,_=>rfl|5,_=>rfl|_+6,h=>absurd h (by omega)) (Ck (λi _ j hj=>match j,hj with|0,_=>rfl|1,_=>rfl|2,_=>rfl|3,_=>rfl|4,_=>rfl|5,_=>rfl|_+6,h=>absurd h (by omega)) Cx))))))))))) ?_
 refine Bi (qw ((r:Int)+1) ((r+1:Nat):Int) ?_)
 refine Ae 1 ?_
 refine Bx [0,2,3,12,13,14] ?_
 exact⟨_,(by omega:l.length-(r+1)<l.length-r),r+1,1,(by omega),rfl,⟨by rw[Ml hlt,List.length_append,List.length_singleton];omega,dQ hx6 hFr.2.1,by omega⟩,(.inr ⟨by omega,(by kernel_rfl)⟩)⟩
 have hx4d:=of_decide_eq_false hx4
 refine qF hx4 ?_
 refine Co ?_
 refine⟨.inr rfl,.lit (.tuple #[]),(Fh results75).castI (by kernel_rfl),.ready,none,[(6,.ptr 0 0),(7,.ptr 1 0),(13,.fn 75 [.ptr 2 0,.ptr 3 0,.ptr 4 0])],23,(by kernel_rfl),(λh=>by cases h),?_⟩
 exfalso;have hql:r=l.length:=(by omega);subst hql;omega
 refine Ab (qb (decide ((r:Int)<((l).length:Int))) ?_)
 refine As [0,2,3,12,13,14,15] ?_
 refine Al ?_
 refine Ao (decide ((r:Int)<((l).length:Int))) (λhx9=>?_) (λhx9=>?_)
 have hx9d:=of_decide_eq_true hx9
 refine qT hx9 ?_
 refine Aw (Al ?_)
 refine Bb ?_
 have hso:=(hok.1 r (by omega)).1
 have hs:=hl.2 r
 have hh:=hso.1
 unfold Iu at hh
 have hA:pA l f r=max f ((l).getD r Sg.none).f:=rfl
 have hB:pB l t r=min t ((l).getD r Sg.none).t:=rfl
 have hD:pD ((l).getD r Sg.none)=((l).getD r Sg.none).t-((l).getD r Sg.none).f:=rfl
 refine Ab (Bl (.elt 6 (λq=>AV.cell (Bs ((l).getD r Sg.none)) q)) (Bk 41 (.tmp 12) (.tmp 14) underlying41 6 ((l).length) r (λi0=>Bs ((l).getD i0 Sg.none)) (r:Int) sizeOf67) ?_)
 refine Ae 3 ?_
 refine As [0,2,3,6,12,13,14] ?_
 refine Dk [(3,.int (max f (((l).getD r Sg.none).f)),.none),(7,.int (min t (((l).getD r Sg.none).t)),.none)] [0,2,3,6,7,8,12,13,14] 52 ⟨?_,?_,trivial⟩ ?_
 exact Bn (Vs (.tmp 18) (.tmp 20) #[3,3] (by kernel_rfl) f (((l).getD r Sg.none).f) (by kernel_rfl) (by kernel_rfl))
 exact Bn (rP (.tmp 22) (.tmp 24) #[3,3] (by kernel_rfl) t (((l).getD r Sg.none).t) (by kernel_rfl) (by kernel_rfl))
 refine Al (Ab ?_)
 refine Ae 2 ?_
 refine qb (decide (min t (((l).getD r Sg.none).t)<=max f (((l).getD r Sg.none).f))) ?_
 refine As [0,2,3,6,7,8,12,13,14,28] ?_
 refine Ao (decide (min t (((l).getD r Sg.none).t)<=max f (((l).getD r Sg.none).f))) (λhx10=>?_) (λhx10=>?_)
 have hx10d:=of_decide_eq_true hx10
 refine qT hx10 ?_
 refine Co (Ov 50 67 6 n (λxi=>Bs ((Hr l f t r).getD xi Sg.none)) (λxi=>Bs ((Hr l f t (r+1)).getD xi Sg.none)) (by kernel_rfl) (λx9 hx9=>by rw[So (by omega)]) ?_)
 refine Ee [0,2,3,6,7,8,12,13,14,28] ⟨[(0,.yld 5),(2,.ptr 3 0),(3,.ptr 4 0),(6,.ptr 51 0),(7,.int (max f (((l).getD r Sg.none).f))),(8,.int (min t (((l).getD r Sg.none).t))),(12,Bj l),(13,.int ((l).length:Int)),(14,.int (r:Int)),(28,.bool true)],[(0,.box 41 [.osl 50 6 n]),(1,.box 32 [.int 0]),(2,.box 41 [Bj l]),(3,.box 3 [.int f]),(4,.box 3 [.int t]),(5,.loop .ready none sp2 [(6,.ptr 0 0),(7,.ptr 1 0),(13,.fn 75 [.ptr 2 0,.ptr 3 0,.ptr 4 0])] 23),(50,.vec 67 6 n (λxi=>Bs ((Hr l f t (r+1)).getD xi Sg.none))),(51,.box 67 [.int (((l).getD r Sg.none).f),.int (((l).getD r Sg.none).t),.int (((l).getD r Sg.none).o),Bc (((l).getD r Sg.none).x),Bc (((l).getD r Sg.none).y),Bc (((l).getD r Sg.none).z)])],52,62⟩ ?_
 refine Hg [(0,0),(1,1),(2,2),(3,3),(4,4),(5,5),(50,50)] 51 6 hD3 _ (Av (Av (Av (Av (Av (Pk (Ck (λi _ j hj=>match j,hj with|0,_=>rfl|1,_=>rfl|2,_=>rfl|3,_=>rfl|4,_=>rfl|5,_=>rfl|_+6,h=>absurd h (by omega)) (Av Cx)))))))) ?_
 refine Bi (qw ((r:Int)+1) ((r+1:Nat):Int) ?_)
 refine Ae 1 ?_
 refine Bx [0,2,3,12,13,14] ?_
 exact⟨_,(by omega:l.length-(r+1)<l.length-r),r+1,n,(by omega),rfl,⟨by rw[So (by omega)];omega,aA (by omega) hFr.2.1,by omega⟩,(.inr ⟨by omega,(by kernel_rfl)⟩)⟩
 have hx10d:=of_decide_eq_false hx10
 refine qF hx10 ?_
 refine Aw ?_
 have hlt:pA l f r<pB l t r:=by omega
 refine Ab (Ae 4 ?_)
 refine qv (((l).getD r Sg.none).t-((l).getD r Sg.none).f) ?_
 refine Ae 1 ?_
 refine As [0,2,3,6,7,8,9,12,13,14] ?_
 refine Ao (Vv ((l).getD r Sg.none) (pA l f r) (pB l t r)) (λhx11=>?_) (λhx11=>?_)
 refine Dk [(6,.int (max f (((l).getD r Sg.none).f)-((l).getD r Sg.none).f),.none),(9,.int (min t (((l).getD r Sg.none).t)-max f (((l).getD r Sg.none).f)),.none),(11,.agg [Ge ((l).getD r Sg.none).x (pA l f r-((l).getD r Sg.none).f) (pB l t r-pA l f r) (pD ((l).getD r Sg.none)),Ge ((l).getD r Sg.none).y (pA l f r-((l).getD r Sg.none).f) (pB l t r-pA l f r) (pD ((l).getD r Sg.none)),Ge ((l).getD r Sg.none).z (pA l f r-((l).getD r Sg.none).f) (pB l t r-pA l f r) (pD ((l).getD r Sg.none))],.none),(14,.lit (Ai (((l).getD r Sg.none).o)),.none),(16,.lit (Ai (pD ((l).getD r Sg.none)^5)),.none),(17,.lit (Ai (((l).getD r Sg.none).o*pD ((l).getD r Sg.none)^5)),.none),(18,.lit (.tuple #[.agg #[.int .i64 (pA l f r),.int .i64 (pB l t r),.int .i64 0,.slice none 0 0,.slice none 0 0,.slice none 0 0],.bool false]),.none),(20,.lit (.agg #[.int .i64 (pA l f r),.int .i64 (pB l t r),.int .i64 0,.slice none 0 0,.slice none 0 0,.slice none 0 0]),.none),(21,.bool false,.none)] [0,2,3,10,11,12,13,14] 53 ⟨?_,?_,?_,?_,?_,?_,?_,?_,?_,trivial⟩ ?_
 exact Yk (max f (((l).getD r Sg.none).f)-((l).getD r Sg.none).f)
 exact Yk (min t (((l).getD r Sg.none).t)-max f (((l).getD r Sg.none).f))
 exact Bn (Br 77 #[.tmp 37,.tmp 41,.tmp 44,.tmp 45] #[67,3,3,3] [Bs ((l).getD r Sg.none),.int (max f (((l).getD r Sg.none).f)-((l).getD r Sg.none).f),.int (min t (((l).getD r Sg.none).t)-max f (((l).getD r Sg.none).f)),.int (((l).getD r Sg.none).t-((l).getD r Sg.none).f)] (.agg [Ge ((l).getD r Sg.none).x (pA l f r-((l).getD r Sg.none).f) (pB l t r-pA l f r) (pD ((l).getD r Sg.none)),Ge ((l).getD r Sg.none).y (pA l f r-((l).getD r Sg.none).f) (pB l t r-pA l f r) (pD ((l).getD r Sg.none)),Ge ((l).getD r Sg.none).z (pA l f r-((l).getD r Sg.none).f) (pB l t r-pA l f r) (pD ((l).getD r Sg.none))]) (Lw ((l).getD r Sg.none) _ _ _ hs hso (Cr (by omega)) (Cr (by omega)) (Cr (by omega)) (by omega)))
 exact Bn (Br 79 #[.tmp 48] #[3] [.int (((l).getD r Sg.none).o)] (.lit (Ai (((l).getD r Sg.none).o))) (Hh _ hs.o.1 hs.o.2))
 exact Oi (Hc (pD ((l).getD r Sg.none)) 5 (Cr (by omega)).1 (Cr (by omega)).2 (by omega) (λj hj=>Fl (Cr (by omega)) (by omega)))
 exact Bn (Br 78 #[.tmp 49,.tmp 51] #[96,96] [.lit (Ai (((l).getD r Sg.none).o)),.lit (Ai (pD ((l).getD r Sg.none)^5))] (.lit (Ai (((l).getD r Sg.none).o*pD ((l).getD r Sg.none)^5))) (Kg _ _ (Iq hs.o) (Fl (Cr (by omega)) (by omega)) ((Ug hs (Cr (by omega))).fit (by omega))))
 exact Bn (Br 76 #[.tmp 35,.tmp 36,.tmp 46,.tmp 52] #[3,3,142,96] [.int (max f (((l).getD r Sg.none).f)),.int (min t (((l).getD r Sg.none).t)),.agg [Ge ((l).getD r Sg.none).x (pA l f r-((l).getD r Sg.none).f) (pB l t r-pA l f r) (pD ((l).getD r Sg.none)),Ge ((l).getD r Sg.none).y (pA l f r-((l).getD r Sg.none).f) (pB l t r-pA l f r) (pD ((l).getD r Sg.none)),Ge ((l).getD r Sg.none).z (pA l f r-((l).getD r Sg.none).f) (pB l t r-pA l f r) (pD ((l).getD r Sg.none))],.lit (Ai (((l).getD r Sg.none).o*pD ((l).getD r Sg.none)^5))] (.lit (.tuple #[.agg #[.int .i64 (pA l f r),.int .i64 (pB l t r),.int .i64 0,.slice none 0 0,.slice none 0 0,.slice none 0 0],.bool false])) (Zj ((l).getD r Sg.none) _ _ hs hso (by omega) (by omega) hx11))
 exact Bn (Dx (v:= .agg #[.int .i64 (pA l f r),.int .i64 (pB l t r),.int .i64 0,.slice none 0 0,.slice none 0 0,.slice none 0 0]) (v':= .agg #[.int .i64 (pA l f r),.int .i64 (pB l t r),.int .i64 0,.slice none 0 0,.slice none 0 0,.slice none 0 0]) rfl _)
 exact uZ
 refine Ab (Ae 3 ?_)
 refine Ut (.tmp 56) #[.tmp 57,.tmp 58] #[67,4] 5 [(6,.ptr 0 0),(7,.ptr 1 0),(13,.fn 75 [.ptr 2 0,.ptr 3 0,.ptr 4 0])] 23 [.lit (.agg #[.int .i64 (pA l f r),.int .i64 (pB l t r),.int .i64 0,.slice none 0 0,.slice none 0 0,.slice none 0 0]),.bool false] sp2p sp2a sp2b rfl (by kernel_rfl) rfl (by kernel_rfl) (by kernel_rfl) (by kernel_rfl) (by kernel_rfl) ⟨[(15,.bool false),(14,.lit (.agg #[.int .i64 (pA l f r),.int .i64 (pB l t r),.int .i64 0,.slice none 0 0,.slice none 0 0,.slice none 0 0])),(6,.ptr 0 0),(7,.ptr 1 0),(13,.fn 75 [.ptr 2 0,.ptr 3 0,.ptr 4 0])],[(0,.box 41 [.osl 50 6 n]),(1,.box 32 [.int 0]),(2,.box 41 [Bj l]),(3,.box 3 [.int f]),(4,.box 3 [.int t]),(5,.loop .ready none sp2 [(6,.ptr 0 0),(7,.ptr 1 0),(13,.fn 75 [.ptr 2 0,.ptr 3 0,.ptr 4 0])] 23),(50,.vec 67 6 n (λxi=>Bs ((Hr l f t r).getD xi Sg.none))),(51,.box 67 [.int (((l).getD r Sg.none).f),.int (((l).getD r Sg.none).t),.int (((l).getD r Sg.none).o),Bc (((l).getD r Sg.none).x),Bc (((l).getD r Sg.none).y),Bc (((l).getD r Sg.none).z)]),(52,.box 67 [.int (pA l f r),.int (pB l t r),.int 0,.lit (.slice none 0 0),.lit (.slice none 0 0),.lit (.slice none 0 0)])],53,23⟩ (by kernel_rfl) λ_ _ hD12=>?_
 refine Bu 2 [6,7,8,15] ?_
 refine Bi (Ae 1 ?_)
 refine Bx [6,7,8,9] ?_
 refine⟨[(6,.ptr 0 0),(7,.ptr 1 0),(13,.fn 75 [.ptr 2 0,.ptr 3 0,.ptr 4 0])],(by kernel_rfl),?_⟩
 refine Bb (Al ?_)
 refine Ab (Ae 1 ?_)
 refine qb true ?_
 refine As [6,7,8,17] ?_
 refine Ca (Bu 2 [6,7] ?_)
 refine Be ?_
 refine⟨[(6,.ptr 0 0),(7,.ptr 1 0),(13,.fn 75 [.ptr 2 0,.ptr 3 0,.ptr 4 0])],(by kernel_rfl),?_⟩
 refine qb true ?_
 refine As [0,2,3,12,13,14,60] ?_
 refine Ca (Be ?_)
 refine⟨.inl rfl,.lit (.tuple #[]),(Fh results75).castI (by kernel_rfl),.done,(some .ret),[(6,.ptr 0 0),(7,.ptr 1 0),(13,.fn 75 [.ptr 2 0,.ptr 3 0,.ptr 4 0])],23,(by kernel_rfl),(λh=>by cases h),?_⟩
 refine Be ?_
 exact⟨.inl rfl,(Cv results43 (Kv (x:= .lit (.slice none 0 0)) 0 isAgg41 0 [.lit (.slice none 0 0)] (by kernel_rfl) 41 (by kernel_rfl) (Nat.le_of_ble_eq_true (by kernel_rfl)) (by kernel_rfl) (by kernel_rfl)) (Kv (x:= .int 7) 1 isAgg32 0 [.int 7] (by kernel_rfl) 32 (by kernel_rfl) (Nat.le_of_ble_eq_true (by kernel_rfl)) (by kernel_rfl) (by kernel_rfl))).cast (Mq (qM (j:=r) (by omega) hlt hx11) (by decide)).symm⟩
 refine Dk [(6,.int (max f (((l).getD r Sg.none).f)-((l).getD r Sg.none).f),.none),(9,.int (min t (((l).getD r Sg.none).t)-max f (((l).getD r Sg.none).f)),.none),(11,.agg [Ge ((l).getD r Sg.none).x (pA l f r-((l).getD r Sg.none).f) (pB l t r-pA l f r) (pD ((l).getD r Sg.none)),Ge ((l).getD r Sg.none).y (pA l f r-((l).getD r Sg.none).f) (pB l t r-pA l f r) (pD ((l).getD r Sg.none)),Ge ((l).getD r Sg.none).z (pA l f r-((l).getD r Sg.none).f) (pB l t r-pA l f r) (pD ((l).getD r Sg.none))],.none),(14,.lit (Ai (((l).getD r Sg.none).o)),.none),(16,.lit (Ai (pD ((l).getD r Sg.none)^5)),.none),(17,.lit (Ai (((l).getD r Sg.none).o*pD ((l).getD r Sg.none)^5)),.none),(18,.tup [Bs (Cu ((l).getD r Sg.none) (pA l f r) (pB l t r)),.bool true],.none)] [0,2,3,10,11,12,13,14] 53 ⟨?_,?_,?_,?_,?_,?_,?_,trivial⟩ ?_
 exact Yk (max f (((l).getD r Sg.none).f)-((l).getD r Sg.none).f)
 exact Yk (min t (((l).getD r Sg.none).t)-max f (((l).getD r Sg.none).f))
 exact Bn (Br 77 #[.tmp 37,.tmp 41,.tmp 44,.tmp 45] #[67,3,3,3] [Bs ((l).getD r Sg.none),.int (max f (((l).getD r Sg.none).f)-((l).getD r Sg.none).f),.int (min t (((l).getD r Sg.none).t)-max f (((l).getD r Sg.none).f)),.int (((l).getD r Sg.none).t-((l).getD r Sg.none).f)] (.agg [Ge ((l).getD r Sg.none).x (pA l f r-((l).getD r Sg.none).f) (pB l t r-pA l f r) (pD ((l).getD r Sg.none)),Ge ((l).getD r Sg.none).y (pA l f r-((l).getD r Sg.none).f) (pB l t r-pA l f r) (pD ((l).getD r Sg.none)),Ge ((l).getD r Sg.none).z (pA l f r-((l).getD r Sg.none).f) (pB l t r-pA l f r) (pD ((l).getD r Sg.none))]) (Lw ((l).getD r Sg.none) _ _ _ hs hso (Cr (by omega)) (Cr (by omega)) (Cr (by omega)) (by omega)))
 exact Bn (Br 79 #[.tmp 48] #[3] [.int (((l).getD r Sg.none).o)] (.lit (Ai (((l).getD r Sg.none).o))) (Hh _ hs.o.1 hs.o.2))
 exact Oi (Hc (pD ((l).getD r Sg.none)) 5 (Cr (by omega)).1 (Cr (by omega)).2 (by omega) (λj hj=>Fl (Cr (by omega)) (by omega)))
 exact Bn (Br 78 #[.tmp 49,.tmp 51] #[96,96] [.lit (Ai (((l).getD r Sg.none).o)),.lit (Ai (pD ((l).getD r Sg.none)^5))] (.lit (Ai (((l).getD r Sg.none).o*pD ((l).getD r Sg.none)^5))) (Kg _ _ (Iq hs.o) (Fl (Cr (by omega)) (by omega)) ((Ug hs (Cr (by omega))).fit (by omega))))
 exact Bn (Br 76 #[.tmp 35,.tmp 36,.tmp 46,.tmp 52] #[3,3,142,96] [.int (max f (((l).getD r Sg.none).f)),.int (min t (((l).getD r Sg.none).t)),.agg [Ge ((l).getD r Sg.none).x (pA l f r-((l).getD r Sg.none).f) (pB l t r-pA l f r) (pD ((l).getD r Sg.none)),Ge ((l).getD r Sg.none).y (pA l f r-((l).getD r Sg.none).f) (pB l t r-pA l f r) (pD ((l).getD r Sg.none)),Ge ((l).getD r Sg.none).z (pA l f r-((l).getD r Sg.none).f) (pB l t r-pA l f r) (pD ((l).getD r Sg.none))],.lit (Ai (((l).getD r Sg.none).o*pD ((l).getD r Sg.none)^5))] (.tup [Bs (Cu ((l).getD r Sg.none) (pA l f r) (pB l t r)),.bool true]) (Zk ((l).getD r Sg.none) _ _ hs hso (by omega) (by omega) hx11))
 refine Ab (Ae 3 ?_)
 refine Ut (.tmp 56) #[.tmp 57,.tmp 58] #[67,4] 5 [(6,.ptr 0 0),(7,.ptr 1 0),(13,.fn 75 [.ptr 2 0,.ptr 3 0,.ptr 4 0])] 23 [Bs (Cu ((l).getD r Sg.none) (pA l f r) (pB l t r)),.bool true] sp2p sp2a sp2b rfl (by kernel_rfl) rfl (by kernel_rfl) (by kernel_rfl) (by kernel_rfl) (by kernel_rfl) ⟨[(15,.bool true),(14,Bs (Cu ((l).getD r Sg.none) (pA l f r) (pB l t r))),(6,.ptr 0 0),(7,.ptr 1 0),(13,.fn 75 [.ptr 2 0,.ptr 3 0,.ptr 4 0])],[(0,.box 41 [.osl 50 6 n]),(1,.box 32 [.int 0]),(2,.box 41 [Bj l]),(3,.box 3 [.int f]),(4,.box 3 [.int t]),(5,.loop .ready none sp2 [(6,.ptr 0 0),(7,.ptr 1 0),(13,.fn 75 [.ptr 2 0,.ptr 3 0,.ptr 4 0])] 23),(50,.vec 67 6 n (λxi=>Bs ((Hr l f t r).getD xi Sg.none))),(51,.box 67 [.int (((l).getD r Sg.none).f),.int (((l).getD r Sg.none).t),.int (((l).getD r Sg.none).o),Bc (((l).getD r Sg.none).x),Bc (((l).getD r Sg.none).y),Bc (((l).getD r Sg.none).z)]),(52,.box 67 [.int ((Cu ((l).getD r Sg.none) (pA l f r) (pB l t r)).f),.int ((Cu ((l).getD r Sg.none) (pA l f r) (pB l t r)).t),.int ((Cu ((l).getD r Sg.none) (pA l f r) (pB l t r)).o),Bc ((Cu ((l).getD r Sg.none) (pA l f r) (pB l t r)).x),Bc ((Cu ((l).getD r Sg.none) (pA l f r) (pB l t r)).y),Bc ((Cu ((l).getD r Sg.none) (pA l f r) (pB l t r)).z)])],53,23⟩ (by kernel_rfl) λ_ _ hD13=>?_
 refine Bu 2 [6,7,8,15] ?_
 refine Bi (Ae 1 ?_)
 refine Bx [6,7,8,9] ?_
 refine⟨[(6,.ptr 0 0),(7,.ptr 1 0),(13,.fn 75 [.ptr 2 0,.ptr 3 0,.ptr 4 0])],(by kernel_rfl),?_⟩
 refine Bb (Al ?_)
 refine Ab (Ae 1 ?_)
 refine qb false ?_
 refine As [6,7,8,17] ?_
 refine Bq (Aw ?_)
 refine Bi (Ae 2 ?_)
 refine Mw (.osl 54 6 1) (.new 54 (.vec 67 6 1 (λ_=>Bs (Cu ((l).getD r Sg.none) (pA l f r) (pB l t r))))) (Cp 41 1 #[(0,(.tmp 19))] underlying41 6 sizeOf67 _ zeroValue67 54 [.int ((Cu ((l).getD r Sg.none) (pA l f r) (pB l t r)).f),.int ((Cu ((l).getD r Sg.none) (pA l f r) (pB l t r)).t),.int ((Cu ((l).getD r Sg.none) (pA l f r) (pB l t r)).o),Bc ((Cu ((l).getD r Sg.none) (pA l f r) (pB l t r)).x),Bc ((Cu ((l).getD r Sg.none) (pA l f r) (pB l t r)).y),Bc ((Cu ((l).getD r Sg.none) (pA l f r) (pB l t r)).z)] (λ_=>Bs (Cu ((l).getD r Sg.none) (pA l f r) (pB l t r)))) ?_
 refine Mw (.osl 55 6 (n+1)) (.grow2 50 54 55 (.vec 67 6 (n+1) (λxi=>Bs ((Hr l f t (r+1)).getD xi Sg.none)))) (Gx (.tmp 18) (.tmp 20) 41 (by kernel_rfl) underlying41 6 96 (.agg #[.int .i64 0,.int .i64 0,.int .i64 0,.slice none 0 0,.slice none 0 0,.slice none 0 0]) (by kernel_rfl) (by kernel_rfl) (by decide) n 1 (by omega) (λxi=>Bs ((Hr l f t r).getD xi Sg.none)) (λ_=>Bs (Cu ((l).getD r Sg.none) (pA l f r) (pB l t r))) (λxi=>Bs ((Hr l f t (r+1)).getD xi Sg.none)) 55 (by omega) (by unfold maxLen;omega) (λi hi=>by show Bs _=Bs _;rw[Ml hlt,Ri,if_pos (by omega)]) (λi hi=>by(obtain rfl:i=0:=(by omega));show Bs _=Bs _;rw[Ml hlt,Ri,if_neg (by omega),show n+0-(Hr l f t r).length=0 by omega];rfl) (λi hi j hj=>match j,hj with|0,_=>rfl|1,_=>rfl|2,_=>rfl|3,_=>rfl|4,_=>rfl|5,_=>rfl|_+6,h=>absurd h (by omega)) 50 (by kernel_rfl) (by kernel_rfl) 54 67 (by kernel_rfl) (by kernel_rfl)) ?_
 refine Ae 1 ?_
 refine Bx [] ?_
 refine⟨[(6,.ptr 0 0),(7,.ptr 1 0),(13,.fn 75 [.ptr 2 0,.ptr 3 0,.ptr 4 0])],(by kernel_rfl),?_⟩
 refine qb false ?_
 refine As [0,2,3,12,13,14,60] ?_
 refine Bq (Aw ?_)
 refine Ee [0,2,3,12,13,14,60] ⟨[(0,.yld 5),(2,.ptr 3 0),(3,.ptr 4 0),(12,Bj l),(13,.int ((l).length:Int)),(14,.int (r:Int)),(60,.bool false)],[(0,.box 41 [.osl 55 6 (n+1)]),(1,.box 32 [.int 0]),(2,.box 41 [Bj l]),(3,.box 3 [.int f]),(4,.box 3 [.int t]),(5,.loop .ready none sp2 [(6,.ptr 0 0),(7,.ptr 1 0),(13,.fn 75 [.ptr 2 0,.ptr 3 0,.ptr 4 0])] 23),(51,.box 67 [.int (((l).getD r Sg.none).f),.int (((l).getD r Sg.none).t),.int (((l).getD r Sg.none).o),Bc (((l).getD r Sg.none).x),Bc (((l).getD r Sg.none).y),Bc (((l).getD r Sg.none).z)]),(52,.box 67 [.int ((Cu ((l).getD r Sg.none) (pA l f r) (pB l t r)).f),.int ((Cu ((l).getD r Sg.none) (pA l f r) (pB l t r)).t),.int ((Cu ((l).getD r Sg.none) (pA l f r) (pB l t r)).o),Bc ((Cu ((l).getD r Sg.none) (pA l f r) (pB l t r)).x),Bc ((Cu ((l).getD r Sg.none) (pA l f r) (pB l t r)).y),Bc ((Cu ((l).getD r Sg.none) (pA l f r) (pB l t r)).z)]),(53,.box 67 [.int ((Cu ((l).getD r Sg.none) (pA l f r) (pB l t r)).f),.int ((Cu ((l).getD r Sg.none) (pA l f r) (pB l t r)).t),.int ((Cu ((l).getD r Sg.none) (pA l f r) (pB l t r)).o),Bc ((Cu ((l).getD r Sg.none) (pA l f r) (pB l t r)).x),Bc ((Cu ((l).getD r Sg.none) (pA l f r) (pB l t r)).y),Bc ((Cu ((l).getD r Sg.none) (pA l f r) (pB l t r)).z)]),(54,.vec 67 6 1 (λ_=>Bs (Cu ((l).getD r Sg.none) (pA l f r) (pB l t r)))),(55,.vec 67 6 (n+1) (λxi=>Bs ((Hr l f t (r+1)).getD xi Sg.none)))],56,62⟩ ?_
 refine Hg [(0,0),(1,1),(2,2),(3,3),(4,4),(5,5),(55,50)] 51 6 hD3 _ (Av (Av (Av (Av (Av (Pk (Av (Av (Av (Ck (λi _ j hj=>match j,hj with|0,_=>rfl|1,_=>rfl|2,_=>rfl|3,_=>rfl|4,_=>rfl|5,_=>rfl|_+6,h=>absurd h (by omega)) (Ck (λi _ j hj=>match j,hj with|0,_=>rfl|1,_=>rfl|2,_=>rfl|3,_=>rfl|4,_=>rfl|5,_=>rfl|_+6,h=>absurd h (by omega)) Cx))))))))))) ?_
 refine Bi (qw ((r:Int)+1) ((r+1:Nat):Int) ?_)
 refine Ae 1 ?_
 refine Bx [0,2,3,12,13,14] ?_
 exact⟨_,(by omega:l.length-(r+1)<l.length-r),r+1,n+1,(by omega),rfl,⟨by rw[Ml hlt,List.length_append,List.length_singleton];omega,dQ hx11 hFr.2.1,by omega⟩,(.inr ⟨by omega,(by kernel_rfl)⟩)⟩
 have hx9d:=of_decide_eq_false hx9
 refine qF hx9 ?_
 refine Co ?_
 refine⟨.inr rfl,.lit (.tuple #[]),(Fh results75).castI (by kernel_rfl),.ready,none,[(6,.ptr 0 0),(7,.ptr 1 0),(13,.fn 75 [.ptr 2 0,.ptr 3 0,.ptr 4 0])],23,(by kernel_rfl),(λh=>by cases h),?_⟩
 refine Bu 3 [6,7] ?_
 refine Jo 50 0 0 67 6 n (λxi=>Bs ((Hr l f t r).getD xi Sg.none)) 41 [.osl 50 6 n] [.sl 6 n (λxi=>Bs ((Hr l f t r).getD xi Sg.none))] (by kernel_rfl) (by kernel_rfl) (by kernel_rfl) (by kernel_rfl) (by kernel_rfl) (λi _ j hj=>match j,hj with|0,_=>rfl|1,_=>rfl|2,_=>rfl|3,_=>rfl|4,_=>rfl|5,_=>rfl|_+6,h=>absurd h (by omega)) ?_
 refine Be ?_
 exact⟨.inl rfl,(Cv results43 (Kv (x:= .sl 6 n (λxi=>Bs ((Hr l f t r).getD xi Sg.none))) 0 isAgg41 0 [.sl 6 n (λxi=>Bs ((Hr l f t r).getD xi Sg.none))] (by kernel_rfl) 41 (by kernel_rfl) (Nat.le_of_ble_eq_true (by kernel_rfl)) (by kernel_rfl) (by kernel_rfl)) (Kv (x:= .int 0) 1 isAgg32 0 [.int 0] (by kernel_rfl) 32 (by kernel_rfl) (Nat.le_of_ble_eq_true (by kernel_rfl)) (by kernel_rfl) (by kernel_rfl))).cast (by have hql:r=l.length:=(by omega);subst hql;rw[iP (qN hFr.2.1),hFr.1];rfl)⟩
theorem aU {p:Pr} {k:Nat} {t:Int} {m:List Int}:∀{i:Nat} {l:List Int},i<=m.length->Fc p k t m i=some l->∀j,l.getD j 0=m.getD j 0+if j<i then ((Hx p k t j).length:Int) else 0
 |0,l,_,h,j=>by cases h;rw[if_neg (Nat.not_lt_zero j),Int.add_zero]
 |i+1,l,hi,h,j=>by
  rw[Fc] at h
  cases h1:Fc p k t m i with
  |none=>rw[h1] at h;cases h
  |some l1=>
   rw[h1] at h
   simp only at h
   have ih:=aU (by omega) h1
   have hlen:l1.length=m.length:=by
    clear ih h
    have key:∀{i:Nat} {l1:List Int},Fc p k t m i=some l1->l1.length=m.length:=by
     intro i
     induction i with
     |zero=>intro l1 h;cases h;rfl
     |succ i ih=>
      intro l1 h
      rw[Fc] at h
      cases h2:Fc p k t m i with
      |none=>rw[h2] at h;cases h
      |some l2=>
       rw[h2] at h
       simp only at h
       split at h
       cases h;rw[List.length_set];exact ih h2
       cases h
    exact key h1
   split at h
   cases h
   by_cases e:i=j
   subst e
   rw[if_pos (Nat.lt_succ_self i)]
   have h2:=ih i
   rw[if_neg (Nat.lt_irrefl i),Int.add_zero] at h2
   rw[<-h2]
   simp[List.getD_eq_getElem?_getD,List.getElem?_set,show i<l1.length by omega]
   have h2:=ih j
   have h4:(if j<i then ((Hx p k t j).length:Int) else 0)=if j<i+1 then ((Hx p k t j).length:Int) else 0:=by
    by_cases hj:j<i
    rw[if_pos hj,if_pos (by omega)]
    rw[if_neg hj,if_neg (by omega)]
   rw[<-h4,<-h2]
   simp[List.getD_eq_getElem?_getD,List.getElem?_set_ne e]
   cases h
theorem mG {p:Pr}:∀{k:Nat} {t:Int} {m:List Int},Kn p k=some (t,m)->∀i,i<p.names.length->m.getD i 0=((Lr p k i).length:Int)/\((Lr p k i).length:Int)<=256
 |0,t,m,h,i,hi=>by
  simp only[Kn,Option.some.injEq,Prod.mk.injEq] at h
  obtain⟨_,rfl⟩:=h
  simp[List.getD_eq_getElem?_getD,hi,Lr]
 |k+1,t,m,h,i,hi=>by
  have hfin:=Mt h
  have hm:i<m.length:=by rw[hfin.2.2.1];exact hi
  have hb:m.getD i 0<=256:=by
   have:m.getD i 0=m[i]:=by simp[List.getD_eq_getElem?_getD,hm]
   rw[this];exact(hfin.2.2.2.1 _ (List.getElem_mem hm)).2
  rw[Kn] at h
  cases h1:Kn p k with
  |none=>rw[h1] at h;cases h
  |some tm=>
   obtain⟨t1,m1⟩:=tm
   rw[h1] at h
   simp only at h
   have ih:=mG h1 i hi
   have h1f:=Mt h1
   have ht:=(cC h1).1
   split at h
   cases h2:Fc p k t1 m1 p.names.length with
   |none=>rw[h2] at h;cases h
   |some m2=>
    rw[h2] at h
    simp only[Option.some.injEq,Prod.mk.injEq] at h
    obtain⟨_,rfl⟩:=h
    have h3:=aU (by rw[h1f.2.2.1];exact Nat.le_refl _) h2 i
    rw[if_pos hi,ih.1,ht] at h3
    have h4:m2.getD i 0=((Lr p (k+1) i).length:Int):=by rw[h3,Lr,List.length_append];omega
    exact⟨h4,by omega⟩
   cases h
theorem Ab0 {p:Pr} (h:Da p=true) {i:Nat} (hi:i<p.names.length):(Lr p p.acts.length i).length<=256:=by
 unfold Da at h
 simp only[Bool.and_eq_true] at h
 obtain⟨tm,ht⟩:=Option.isSome_iff_exists.1 h.2
 obtain⟨t,m⟩:=tm
 have:=(mG ht i hi).2
 omega
theorem yG {p:Pr} (ho:fM p):∀k,k<=p.acts.length->0<k->0<Et p.acts k
 |0,_,h=>absurd h (Nat.lt_irrefl 0)
 |k+1,hk,_=>by
  have h1:=(ho.ends k (by omega)).1
  have h2:=ho.len k (by omega)
  rw[Et];omega
structure AbR (p:Pr) (i:Nat) (l:List Sg):Prop where
 ok:Dz l
 pin:Cm l
 first:(l.getD 0 Sg.none).f=0
 last:(l.getD (l.length-1) Sg.none).t=Et p.acts p.acts.length
 one:∀i,i<l.length->(l.getD i Sg.none).o=1
theorem Ac4 {p:Pr} (h:Da p=true) (h0:0<p.acts.length) {i:Nat} (hi:i<p.names.length):AbR p i (Lr p p.acts.length i):=by
 have ho:=Eo h
 have hc:=eT ho hi p.acts.length (Nat.le_refl _)
 have hp:=hc.pos (yG ho _ (Nat.le_refl _) h0)
 have hf:=Ab0 h hi
 refine⟨⟨λj hj=>⟨(hc.seg j hj).1,(hc.seg j hj).2.2.2⟩,hp,hf⟩,⟨by omega,λj=>?_⟩,hc.first hp,hc.last hp,λj hj=>(hc.seg j hj).2.2.1⟩
 by_cases hj:j<(Lr p p.acts.length i).length
 exact(hc.seg j hj).2.1
 have e:(Lr p p.acts.length i).getD j Sg.none=Sg.none:=by rw[List.getD_eq_getElem?_getD,List.getElem?_eq_none (by omega)];rfl
 rw[e];exact Cm.nil.2 0
theorem kF (p:Nat->Int) (m:Nat) (d:Int):∀j k,k<=j->j<m->cN p m 0 d d j k=p (m-1-j+k)*d^j
 |0,k,hk,hj=>by
  obtain rfl:k=0:=by omega
  rw[cN,Int.pow_zero,Int.mul_one];rfl
 |j+1,k,hk,hj=>by
  rw[cN]
  by_cases h0:k=0
  subst h0
  rw[if_pos rfl,Yz]
  unfold Lz
  rw[if_pos (Nat.succ_pos j),if_pos rfl,Int.mul_zero,Int.zero_add,Int.zero_add,show m-2-j=m-1-(j+1)+0 by omega]
  rw[if_neg h0,Int.add_zero]
  have ih:=kF p m d j (k-1) (by omega) (by omega)
  unfold Lz
  by_cases h1:k<j+1
  rw[if_pos h1,if_neg h0,Int.mul_zero,Int.add_zero,ih,Int.pow_succ,Int.mul_assoc,show m-1-j+(k-1)=m-1-(j+1)+k by omega]
  obtain rfl:k=j+1:=by omega
  rw[Nat.add_sub_cancel] at ih
  rw[if_neg h1,if_pos ⟨rfl,Nat.succ_pos j⟩,Nat.add_sub_cancel,ih,Int.pow_succ,Int.mul_assoc,show m-1-j+j=m-1-(j+1)+(j+1) by omega]
theorem vX {l:List Int} {d:Int} (hd:0<d) (h1:1<=l.length) (h6:l.length<=6) (hl:1<l.length->l.getD (l.length-1) 0≠0):
  (on l 0 d d=l.length/\∀i,i<l.length->oc l 0 d d i=l.getD i 0*d^5)\/(l=[0]/\on l 0 d d=0):=by
 by_cases hz:l.getD (l.length-1) 0=0
 right
 have e1:l.length=1:=by
  by_cases h:1<l.length
  exact absurd hz (hl h)
  omega
 obtain⟨a,rfl⟩:=List.length_eq_one_iff.1 e1
 have ha:a=0:=hz
 subst ha
 refine⟨rfl,?_⟩
 have e2:Su [0]=0:=by decide
 show Du (oc [0] 0 d d) (Du (Rr [0] 0 d d) (Su [0]))=0
 rw[e2];rfl
 left
 have e2:Su l=l.length:=Sz (.inr hz)
 have e3:∀i,i<l.length->Rr l 0 d d i=l.getD i 0*d^(l.length-1):=λi hi=>by
  show cN (Pd l) (Su l) 0 d d (Su l-1) i=_
  rw[e2,kF _ _ _ _ _ (by omega) (by omega),show l.length-1-(l.length-1)+i=i by omega]
 have hdp:∀k,d^k≠0:=λk=>Int.ne_of_gt (Int.pow_pos hd)
 have e4:∀i,i<l.length->oc l 0 d d i=l.getD i 0*d^5:=λi hi=>by
  show Rr l 0 d d i*d^(6-l.length)=_
  rw[e3 i hi,Int.mul_assoc,<-Int.pow_add,show l.length-1+(6-l.length)=5 by omega]
 refine⟨?_,e4⟩
 have e5:Du (Rr l 0 d d) (Su l)=l.length:=by
  rw[e2]
  refine Sz (.inr ?_)
  rw[e3 _ (by omega)]
  exact Int.mul_ne_zero hz (hdp _)
 show Du (oc l 0 d d) (Du (Rr l 0 d d) (Su l))=l.length
 rw[e5]
 refine Sz (.inr ?_)
 rw[e4 _ (by omega)]
 exact Int.mul_ne_zero hz (hdp _)
theorem Vc {c:Nat->Int} {g:Int} (hg:0<g):∀k,(∀i,i<k->∃q,c i=q*g)->gF c g k=g
 |0,_=>rfl
 |k+1,h=>by
  rw[gF,Vc hg k λi hi=>h i (by omega)]
  obtain⟨q,hq⟩:=h k (Nat.lt_succ_self k)
  rw[hq,Int.natAbs_mul,Nat.gcd_eq_left (Nat.dvd_mul_left _ _)]
  omega
theorem Um {l:List Int} {d:Int} (hd:0<d) (h1:1<=l.length) (h6:l.length<=6) (hl:1<l.length->l.getD (l.length-1) 0≠0) (hin:∀i,Cj (l.getD i 0)):
  Td (on l 0 d d) (oc l 0 d d) (d^5)=l/\∀i,i<on l 0 d d->∃q,oc l 0 d d i=q*d^5:=by
 have hd5:d^5≠0:=Int.ne_of_gt (Int.pow_pos hd)
 rcases vX hd h1 h6 hl with⟨e1,e2⟩|⟨e1,e2⟩
 refine⟨eN (by rw[Ob,e1];omega) λq hq=>?_,λi hi=>⟨_,e2 i (by omega)⟩⟩
 rw[Ob,e1] at hq
 rw[fZ,Ha,e1,if_pos (by omega),e2 q (by omega),Int.mul_ediv_cancel _ hd5,AcV (hin q)]
 refine⟨?_,λi hi=>by omega⟩
 rw[e2,e1]
 rfl
theorem bE {s:Sg} (hs:Nz s) (ho:Gm s) (h1:s.o=1):Cu s s.f s.t=s/\Vv s s.f s.t=false:=by
 have hh:=ho.1
 unfold Iu at hh
 have hd:0<pD s:=by show 0<s.t-s.f;omega
 have hd5:0<pD s^5:=Int.pow_pos hd
 obtain⟨x1,x2⟩:=Um hd ho.2.1.1 ho.2.1.2.1 ho.2.1.2.2.1 hs.x
 obtain⟨y1,y2⟩:=Um hd ho.2.2.1.1 ho.2.2.1.2.1 ho.2.2.1.2.2.1 hs.y
 obtain⟨z1,z2⟩:=Um hd ho.2.2.2.1.1 ho.2.2.2.1.2.1 ho.2.2.2.1.2.2.1 hs.z
 have e0:s.f-s.f=0:=by omega
 have e1:s.t-s.f=pD s:=rfl
 have g:gM (on s.x 0 (pD s) (pD s)) (on s.y 0 (pD s) (pD s)) (on s.z 0 (pD s) (pD s)) (oc s.x 0 (pD s) (pD s)) (oc s.y 0 (pD s) (pD s)) (oc s.z 0 (pD s) (pD s)) (1*pD s^5)=pD s^5:=by
  unfold gM
  rw[Int.one_mul,Vc hd5 _ x2,Vc hd5 _ y2,Vc hd5 _ z2]
 have q1:(1*pD s^5)/pD s^5=1:=by rw[Int.one_mul];exact Int.ediv_self (Int.ne_of_gt hd5)
 constructor
 unfold Cu lF
 rw[e0,e1,h1,g,q1,x1,y1,z1]
 exact Aai rfl rfl h1.symm rfl rfl rfl
 unfold Vv rI
 rw[e0,e1,h1,g,q1]
 decide
theorem tG {l:List Sg} {f t:Int} (hl:Cm l) (hok:Dz l) (h1:∀i,i<l.length->(l.getD i Sg.none).o=1/\f<=(l.getD i Sg.none).f/\(l.getD i Sg.none).t<=t):My l f t=(l,0):=by
 have key:∀i,i<l.length->pA l f i=(l.getD i Sg.none).f/\pB l t i=(l.getD i Sg.none).t:=λi hi=>by
  have:=h1 i hi
  constructor
  show max f _=_;omega
  show min t _=_;omega
 have e:∀n,n<=l.length->Hr l f t n=l.take n:=by
  intro n
  induction n with
  |zero=>intro _;rfl
  |succ n ih=>
   intro hn
   have h2:=key n (by omega)
   have h3:=(hok.1 n (by omega)).1
   have hh:=h3.1
   unfold Iu at hh
   rw[Ml (by rw[h2.1,h2.2];omega),h2.1,h2.2,(bE (hl.2 n) h3 (h1 n (by omega)).1).1,ih (by omega),List.take_succ_eq_append_getElem (by omega)]
   congr 2
   simp[List.getD_eq_getElem?_getD,show n<l.length by omega]
 have hk:Xr l f t l.length:=λj hj _=>by
  rw[(key j hj).1,(key j hj).2]
  exact(bE (hl.2 j) (hok.1 j hj).1 (h1 j hj).1).2
 rw[qN hk,e _ (Nat.le_refl _),List.take_length]
theorem kI {l:List Sg} {f t:Int}:∀n,Hr l f t n=[]->∀i,i<n->¬pA l f i<pB l t i
 |0,_,i,hi=>absurd hi (Nat.not_lt_zero i)
 |n+1,h,i,hi=>by
  by_cases hlt:pA l f n<pB l t n
  rw[Ml hlt] at h;simp at h
  rw[So hlt] at h
  by_cases e:i=n
  subst e;exact hlt
  exact kI n h i (by omega)
theorem qO {l:List Sg} {f t:Int} (hok:Dz l) (hf:(l.getD 0 Sg.none).f<=f) (hft:f<t) (ht:t<=(l.getD (l.length-1) Sg.none).t):0<(Hr l f t l.length).length:=by
 rcases Nat.eq_zero_or_pos (Hr l f t l.length).length with h|h
 exfalso
 have hn:=kI _ (List.eq_nil_of_length_eq_zero h)
 have key:∀i,i<l.length->(l.getD i Sg.none).t<=f:=by
  intro i
  induction i with
  |zero=>
   intro hi
   have:=hn 0 hi
   have:¬max f (l.getD 0 Sg.none).f<min t (l.getD 0 Sg.none).t:=this
   omega
  |succ i ih=>
   intro hi
   have h1:=ih (by omega)
   have h2:=((hok.1 (i+1) hi).2 (Nat.succ_pos i)).1
   rw[Nat.add_sub_cancel] at h2
   have:¬max f (l.getD (i+1) Sg.none).f<min t (l.getD (i+1) Sg.none).t:=hn (i+1) hi
   omega
 have:=key (l.length-1) (by have:=hok.2.1;omega)
 omega
 exact h
theorem oQ {l:List Sg} (hok:Dz l):(∀i,i<l.length->(l.getD 0 Sg.none).f<=(l.getD i Sg.none).f)/\∀i,i<l.length->(l.getD i Sg.none).t<=(l.getD (l.length-1) Sg.none).t:=by
 have hd:∀i,i<l.length->(l.getD i Sg.none).f<(l.getD i Sg.none).t:=λi hi=>by have:=(hok.1 i hi).1.1;unfold Iu at this;omega
 have hm:∀i,i+1<l.length->(l.getD i Sg.none).t=(l.getD (i+1) Sg.none).f:=λi hi=>((hok.1 (i+1) hi).2 (Nat.succ_pos i)).1
 constructor
 intro i
 induction i with
 |zero=>intro _;exact Int.le_refl _
 |succ i ih=>
  intro hi
  have:=ih (by omega)
  have:=hd i (by omega)
  have:=hm i hi
  omega
 have:∀j i,i+j=l.length-1->i<l.length->(l.getD i Sg.none).t<=(l.getD (l.length-1) Sg.none).t:=by
  intro j
  induction j with
  |zero=>intro i h _;rw[show i=l.length-1 by omega];exact Int.le_refl _
  |succ j ih=>
   intro i h hi
   have h1:=ih (i+1) (by omega) (by omega)
   have h2:=hm i (by omega)
   have h3:=hd (i+1) (by omega)
   omega
 exact λi hi=>this (l.length-1-i) i (by omega) hi
noncomputable def nK (a b:List Sg×Int):List Sg×Int:=if a.2=0/\b.2=0 then (if a.1.length=0 then (b.1,0) else Fe a.1 b.1) else ([],max a.2 b.2)
abbrev cW (r:List Sg×Int):AV:= .tup [Bj r.1,.int r.2]
theorem jW {a b:List Sg} (h:(Fe a b).2≠0):(Fe a b).1=[]:=by
 unfold Fe at*
 split
 rfl
 rename_i h1
 rw[if_neg h1] at h
 split
 rfl
 rename_i h2
 rw[if_neg h2] at h
 split
 rfl
 rename_i h3
 rw[if_neg h3] at h
 exact absurd rfl h
theorem VR.resA_P {E:Dd} {v:Value} {r:List Sg×Int} (hr:r.2≠0->r.1=[]) (h:VR E (Qp r) v):VR E (cW r) v:=by
 unfold Qp at h
 split at h
 rename_i h0;rw[cW,h0];exact h
 rename_i h0
 have:=h.lit_inv
 subst this
 rw[cW,hr h0]
 refine .tup _ _ _ rfl λi hi=>?_
 match i,hi with
 |0,_=>exact .sl0 _ _ _ _ _
 |1,_=>exact .lit _ _
theorem jE (a b:List Sg) (e f:Int) (he:Cj e) (hf:Cj f) (h:¬e=0):AF Tryz.prog 23 [Bj a,.int e,Bj b,.int f] (.lit (.tuple #[.slice none 0 0,.int .i64 (max e f)])):=by
 refine Dl ⟨[(0,Bj a),(1,.int e),(2,Bj b),(3,.int f)],[],0,28⟩ func23 rfl 28 ntmps23 (by kernel_rfl) (by kernel_rfl) λB D0 hA0=>?_
 refine Bu 2 [0,1,2,3] ?_
 refine Al (Ab ?_)
 refine Ae 1 ?_
 refine qb (!decide (e=0)) ?_
 refine Ae 1 ?_
 refine Bg 12 (!decide (e=0)) true (by rw[(decide_eq_false h)];rfl) ?_
 refine Ae 3 ?_
 refine As [0,1,2,3,15] ?_
 refine Ca (Ab ?_)
 refine Ae 2 ?_
 refine Bl (.int (max e f)) (Vs (.tmp 16) (.tmp 17) #[32,32] (by kernel_rfl) e f (by kernel_rfl) (by kernel_rfl)) ?_
 refine Ae 2 ?_
 refine As [8,9] ?_
 refine Be ?_
 exact⟨.inl rfl,(Cv results23 (Ak (x:= .lit (.slice none 0 0)) (by kernel_rfl) (by kernel_rfl)) (Ak (x:= .int (max e f)) (by kernel_rfl) (by kernel_rfl))).cast (by kernel_rfl)⟩
theorem jF (a b:List Sg) (e f:Int) (he:Cj e) (hf:Cj f) (h0:e=0) (h:¬f=0):AF Tryz.prog 23 [Bj a,.int e,Bj b,.int f] (.lit (.tuple #[.slice none 0 0,.int .i64 (max e f)])):=by
 refine Dl ⟨[(0,Bj a),(1,.int e),(2,Bj b),(3,.int f)],[],0,28⟩ func23 rfl 28 ntmps23 (by kernel_rfl) (by kernel_rfl) λB D0 hA0=>?_
 refine Bu 2 [0,1,2,3] ?_
 refine Al (Ab ?_)
 refine Ae 1 ?_
 refine qb (!decide (e=0)) ?_
 refine Ae 1 ?_
 refine Bg 12 (!decide (e=0)) false (by rw[(decide_eq_true h0)];rfl) ?_
 refine Ae 1 ?_
 refine Ga (!decide (f=0)) ?_
 refine Ae 1 ?_
 refine As [0,1,2,3,15] ?_
 refine qT (b:=(!decide (f=0))) (by rw[(decide_eq_false h)];rfl) ?_
 refine Ab (Ae 2 ?_)
 refine Bl (.int (max e f)) (Vs (.tmp 16) (.tmp 17) #[32,32] (by kernel_rfl) e f (by kernel_rfl) (by kernel_rfl)) ?_
 refine Ae 2 ?_
 refine As [8,9] ?_
 refine Be ?_
 exact⟨.inl rfl,(Cv results23 (Ak (x:= .lit (.slice none 0 0)) (by kernel_rfl) (by kernel_rfl)) (Ak (x:= .int (max e f)) (by kernel_rfl) (by kernel_rfl))).cast (by kernel_rfl)⟩
theorem jB (a b:List Sg) (e f:Int) (he:Cj e) (hf:Cj f) (h0:e=0) (h1:f=0) (hl:a.length<=1000000) (h:(a.length:Int)=0):AF Tryz.prog 23 [Bj a,.int e,Bj b,.int f] (.tup [Bj b,.int 0]):=by
 refine Dl ⟨[(0,Bj a),(1,.int e),(2,Bj b),(3,.int f)],[],0,28⟩ func23 rfl 28 ntmps23 (by kernel_rfl) (by kernel_rfl) λB D0 hA0=>?_
 refine Bu 2 [0,1,2,3] ?_
 refine Al (Ab ?_)
 refine Ae 1 ?_
 refine qb (!decide (e=0)) ?_
 refine Ae 1 ?_
 refine Bg 12 (!decide (e=0)) false (by rw[(decide_eq_true h0)];rfl) ?_
 refine Ae 1 ?_
 refine Ga (!decide (f=0)) ?_
 refine Ae 1 ?_
 refine As [0,1,2,3,15] ?_
 refine qF (b:=(!decide (f=0))) (by rw[(decide_eq_true h1)];rfl) ?_
 refine Aw (Al ?_)
 refine Ab (Ae 1 ?_)
 refine Bl (.int ((a).length:Int)) (Dg (.tmp 19) 41 #[41] underlying41 ((a).length) (.inl ⟨6,(λi0=>Bs ((a).getD i0 Sg.none)),by kernel_rfl⟩)) ?_
 refine qb (decide (((a).length:Int)=0)) ?_
 refine As [0,2,21] ?_
 refine qT (b:=(decide (((a).length:Int)=0))) (decide_eq_true h) ?_
 refine Bu 3 [8,9] ?_
 refine Be ?_
 exact⟨.inl rfl,(Cv results23 (Ak (x:=Bj b) (by kernel_rfl) (by kernel_rfl)) (Ak (x:= .int 0) (by kernel_rfl) (by kernel_rfl))).cast (by kernel_rfl)⟩
theorem jC (a b:List Sg) (e f:Int) (he:Cj e) (hf:Cj f) (h0:e=0) (h1:f=0) (hpa:Cm a) (hpb:Cm b) (h2:¬(a.length:Int)=0) (h:(Fe a b).2=0):AF Tryz.prog 23 [Bj a,.int e,Bj b,.int f] (.tup [Bj (Fe a b).1,.int 0]):=by
 refine Dl ⟨[(0,Bj a),(1,.int e),(2,Bj b),(3,.int f)],[],0,28⟩ func23 rfl 28 ntmps23 (by kernel_rfl) (by kernel_rfl) λB D0 hA0=>?_
 refine Bu 2 [0,1,2,3] ?_
 refine Al (Ab ?_)
 refine Ae 1 ?_
 refine qb (!decide (e=0)) ?_
 refine Ae 1 ?_
 refine Bg 12 (!decide (e=0)) false (by rw[(decide_eq_true h0)];rfl) ?_
 refine Ae 1 ?_
 refine Ga (!decide (f=0)) ?_
 refine Ae 1 ?_
 refine As [0,1,2,3,15] ?_
 refine qF (b:=(!decide (f=0))) (by rw[(decide_eq_true h1)];rfl) ?_
 refine Aw (Al ?_)
 refine Ab (Ae 1 ?_)
 refine Bl (.int ((a).length:Int)) (Dg (.tmp 19) 41 #[41] underlying41 ((a).length) (.inl ⟨6,(λi0=>Bs ((a).getD i0 Sg.none)),by kernel_rfl⟩)) ?_
 refine qb (decide (((a).length:Int)=0)) ?_
 refine As [0,2,21] ?_
 refine qF (b:=(decide (((a).length:Int)=0))) (decide_eq_false h2) ?_
 refine Aw (Ab ?_)
 refine Ae 2 ?_
 refine Fg (Lv a b hpa hpb h) ?_
 refine Ae 4 ?_
 refine As [8,9] ?_
 refine Be ?_
 exact⟨.inl rfl,(Cv results23 (Ak (x:=Bj ((Fe a b).1)) (by kernel_rfl) (by kernel_rfl)) (Ak (x:= .int 0) (by kernel_rfl) (by kernel_rfl))).cast (by kernel_rfl)⟩
theorem jD (a b:List Sg) (e f:Int) (he:Cj e) (hf:Cj f) (h0:e=0) (h1:f=0) (hpa:Cm a) (hpb:Cm b) (h2:¬(a.length:Int)=0) (h:¬(Fe a b).2=0):AF Tryz.prog 23 [Bj a,.int e,Bj b,.int f] (.lit (.tuple #[.slice none 0 0,.int .i64 (Fe a b).2])):=by
 refine Dl ⟨[(0,Bj a),(1,.int e),(2,Bj b),(3,.int f)],[],0,28⟩ func23 rfl 28 ntmps23 (by kernel_rfl) (by kernel_rfl) λB D0 hA0=>?_
 refine Bu 2 [0,1,2,3] ?_
 refine Al (Ab ?_)
 refine Ae 1 ?_
 refine qb (!decide (e=0)) ?_
 refine Ae 1 ?_
 refine Bg 12 (!decide (e=0)) false (by rw[(decide_eq_true h0)];rfl) ?_
 refine Ae 1 ?_
 refine Ga (!decide (f=0)) ?_
 refine Ae 1 ?_
 refine As [0,1,2,3,15] ?_
 refine qF (b:=(!decide (f=0))) (by rw[(decide_eq_true h1)];rfl) ?_
 refine Aw (Al ?_)
 refine Ab (Ae 1 ?_)
 refine Bl (.int ((a).length:Int)) (Dg (.tmp 19) 41 #[41] underlying41 ((a).length) (.inl ⟨6,(λi0=>Bs ((a).getD i0 Sg.none)),by kernel_rfl⟩)) ?_
 refine qb (decide (((a).length:Int)=0)) ?_
 refine As [0,2,21] ?_
 refine qF (b:=(decide (((a).length:Int)=0))) (decide_eq_false h2) ?_
 refine Aw (Ab ?_)
 refine Ae 2 ?_
 refine Fg (Nr a b hpa hpb h) ?_
 refine Bl (.lit (.slice none 0 0)) (Dx (v:= .slice none 0 0) (v':= .slice none 0 0) rfl _) ?_
 refine qi ((Fe a b).2) ?_
 refine Ae 2 ?_
 refine As [8,9] ?_
 refine Be ?_
 exact⟨.inl rfl,(Cv results23 (Ak (x:= .lit (.slice none 0 0)) (by kernel_rfl) (by kernel_rfl)) (Ak (x:= .int ((Fe a b).2)) (by kernel_rfl) (by kernel_rfl))).cast (by kernel_rfl)⟩
theorem VR.nil_P {E:Dd} {v:Value} {e:Int} (h:VR E (.lit (.tuple #[.slice none 0 0,.int .i64 e])) v):VR E (cW ([],e)) v:=by
 have:=h.lit_inv
 subst this
 refine .tup _ _ _ rfl λi hi=>?_
 match i,hi with
 |0,_=>exact .sl0 _ _ _ _ _
 |1,_=>exact .lit _ _
theorem dG (a b:List Sg×Int) (ha:Cm a.1) (hb:Cm b.1) (he:Cj a.2) (hf:Cj b.2):AF Tryz.prog 23 [Bj a.1,.int a.2,Bj b.1,.int b.2] (cW (nK a b)):=by
 unfold nK
 by_cases h:a.2=0/\b.2=0
 rw[if_pos h]
 by_cases h2:a.1.length=0
 rw[if_pos h2]
 exact jB a.1 b.1 a.2 b.2 he hf h.1 h.2 ha.1 (by omega)
 rw[if_neg h2]
 by_cases h3:(Fe a.1 b.1).2=0
 have:=jC a.1 b.1 a.2 b.2 he hf h.1 h.2 ha hb (by omega) h3
 rw[cW,h3];exact this
 refine dJ (jD a.1 b.1 a.2 b.2 he hf h.1 h.2 ha hb (by omega) h3) rfl (λ_ _ _ _ h=>h) λE v hv=>?_
 have:=hv.nil_P
 have e:Fe a.1 b.1=([],(Fe a.1 b.1).2):=Prod.ext (jW h3) rfl
 rw[e];exact this
 rw[if_neg h]
 refine dJ (args:=[Bj a.1,.int a.2,Bj b.1,.int b.2]) (r:= .lit (.tuple #[.slice none 0 0,.int .i64 (max a.2 b.2)])) ?_ rfl (λ_ _ _ _ h=>h) λE v hv=>hv.nil_P
 by_cases h1:a.2=0
 exact jF a.1 b.1 a.2 b.2 he hf h1 (λg=>h ⟨h1,g⟩)
 exact jE a.1 b.1 a.2 b.2 he hf h1
theorem mY (b:List Sg×Int) (hb:Cm b.1) (hf:Cj b.2):AF Tryz.prog 23 [.lit (.slice none 0 0),.int 0,Bj b.1,.int b.2] (cW (nK ([],0) b)):=
 dJ (dG ([],0) b Cm.nil hb Gw hf) rfl (λi hi E v hv=>by
  match i,hi with
  |0,_=>exact hv.nil_path
  |1,_=>exact hv
  |2,_=>exact hv
  |3,_=>exact hv) λ_ _ h=>h
theorem xR {g:List Sg×Int} (hg:(g.2=0/\0<g.1.length)\/(g.2=2/\g.1=[])):nK ([],0) g=g:=by
 unfold nK
 rcases hg with⟨h1,h2⟩|⟨h1,h2⟩
 rw[if_pos ⟨rfl,h1⟩,if_pos (show ([]:List Sg).length=0 from rfl)];exact Prod.ext rfl h1.symm
 rw[if_neg (λk=>by have:=k.2;omega)];exact Prod.ext h2.symm (by show max 0 g.2=g.2;omega)
theorem Ib.nil:Ib []:=⟨by decide,λi=>by simp[Sg.none,RowsIn]⟩
theorem Ib.app {a b:List Sg} (ha:Ib a) (hb:Ib b):Ib (Fe a b).1:=by
 unfold Fe
 split
 exact Ib.nil
 split
 exact Ib.nil
 split
 exact Ib.nil
 rename_i h
 refine⟨by simp;omega,λi=>?_⟩
 by_cases hi:i<a.length
 have:(a++b).getD i Sg.none=a.getD i Sg.none:=by simp[List.getD_eq_getElem?_getD,List.getElem?_append_left hi]
 rw[this];exact ha.2 i
 have:(a++b).getD i Sg.none=b.getD (i-a.length) Sg.none:=by simp[List.getD_eq_getElem?_getD,List.getElem?_append_right (by omega:a.length<=i)]
 rw[this];exact hb.2 _
theorem Xl (a b k:Int):(Ef a b (Ct k)).length<=1000000:=by
 unfold Ef
 rw[List.length_cons]
 split
 decide
 rw[List.length_map]
 unfold Ct
 split
 decide
 split
 decide
 decide
theorem Ib.fly (a b:V3) (f t k:Int):Ib (Ua a b f t k).1:=by
 unfold Ua
 split
 refine⟨by show 1<=1000000;decide,λi=>?_⟩
 cases i with
 |zero=>exact⟨Xl _ _ _,Xl _ _ _,Xl _ _ _⟩
 |succ i=>exact Ib.nil.2 i
 exact Ib.nil
end Go.Proofs.YtkcnbaeoahoglaaGreat
namespace Go.Proofs.YtkcnbaeoahoglaaGreat
open Go.Proofs.Tryz
open Go.RowKit
theorem wH (l:List Sg) (f t:Int) (hl:Cm l) (hok:Dz l) (hf:(l.getD 0 Sg.none).f<=f) (hft:f<t) (ht:t<=(l.getD (l.length-1) Sg.none).t):AF Tryz.prog 43 [Bj l,.int f,.int t] (Qp (My l f t)):=by
 have h0:=(hok.1 0 (by have:=hok.2;omega)).1.1
 have h1:=(hok.1 (l.length-1) (by have:=hok.2;omega)).1.1
 unfold Iu at h0 h1
 exact AaA l f t hl hok (by omega) (by omega) (qO hok hf hft ht)
theorem aB (l:List Sg) (f t:Int):(My l f t).2=0\/((My l f t).2=7/\(My l f t).1=[]):=by
 unfold My
 split
 exact .inl rfl
 exact .inr ⟨rfl,rfl⟩
theorem dE (l:List Sg) (f t:Int) (hl:Cm l) (hok:Dz l) (hf:(l.getD 0 Sg.none).f<=f) (hft:f<t) (ht:t<=(l.getD (l.length-1) Sg.none).t) (h:(My l f t).2=0):AF Tryz.prog 21 [Bj l,.int f,.int t] (.tup [Bj (My l f t).1,.int 0]):=by
 refine Dl ⟨[(0,Bj l),(1,.int f),(2,.int t)],[],0,41⟩ func21 rfl 41 ntmps21 (by kernel_rfl) (by kernel_rfl) λB D0 hA0=>?_
 refine Bu 2 [0,1,2] ?_
 refine Ab (Ae 1 ?_)
 refine Fg (fD l hl hok) ?_
 refine Ae 1 ?_
 refine qi ((l.getD 0 Sg.none).f) ?_
 refine qi ((l.getD (l.length-1) Sg.none).t) ?_
 refine qi 0 ?_
 refine Ae 3 ?_
 refine As [0,1,2,8,9,10] ?_
 refine Al (Bb ?_)
 refine Ab (Ae 1 ?_)
 refine qb false ?_
 refine Ae 1 ?_
 refine As [0,1,2,8,9,10,17] ?_
 refine Bq (Ab ?_)
 refine Ae 2 ?_
 refine Bl (.bool false) (Dx (v:= .bool (decide (f<(l.getD 0 Sg.none).f))) (v':= .bool false) (congrArg Value.bool (decide_eq_false (by omega))) _) ?_
 refine Ae 3 ?_
 refine Ei (.bool false) .none (Dx (v:= .bool (decide (t<=f))) (v':= .bool false) (congrArg Value.bool (decide_eq_false (by omega))) _) ?_
 refine Ae 4 ?_
 refine Ei (.bool false) .none (Dx (v:= .bool (decide ((l.getD (l.length-1) Sg.none).t<t))) (v':= .bool false) (congrArg Value.bool (decide_eq_false (by omega))) _) ?_
 refine Ae 2 ?_
 refine As [0,1,2,21] ?_
 refine Bq (Aw ?_)
 refine Ab (Ae 3 ?_)
 refine Fg (by have:=wH l f t hl hok hf hft ht;unfold Qp at this;rwa [if_pos h] at this) ?_
 refine Ae 4 ?_
 refine As [6,7] ?_
 refine Be ?_
 exact⟨.inl rfl,(Cv results21 (Ak (x:=Bj ((My l f t).1)) (by kernel_rfl) (by kernel_rfl)) (Ak (x:= .int 0) (by kernel_rfl) (by kernel_rfl))).cast (by kernel_rfl)⟩
theorem dC (l:List Sg) (f t:Int) (hl:Cm l) (hok:Dz l) (hf:(l.getD 0 Sg.none).f<=f) (hft:f<t) (ht:t<=(l.getD (l.length-1) Sg.none).t) (h:¬(My l f t).2=0):AF Tryz.prog 21 [Bj l,.int f,.int t] (.lit (.tuple #[.slice none 0 0,.int .i64 7])):=by
 refine Dl ⟨[(0,Bj l),(1,.int f),(2,.int t)],[],0,41⟩ func21 rfl 41 ntmps21 (by kernel_rfl) (by kernel_rfl) λB D0 hA0=>?_
 refine Bu 2 [0,1,2] ?_
 refine Ab (Ae 1 ?_)
 refine Fg (fD l hl hok) ?_
 refine Ae 1 ?_
 refine qi ((l.getD 0 Sg.none).f) ?_
 refine qi ((l.getD (l.length-1) Sg.none).t) ?_
 refine qi 0 ?_
 refine Ae 3 ?_
 refine As [0,1,2,8,9,10] ?_
 refine Al (Bb ?_)
 refine Ab (Ae 1 ?_)
 refine qb false ?_
 refine Ae 1 ?_
 refine As [0,1,2,8,9,10,17] ?_
 refine Bq (Ab ?_)
 refine Ae 2 ?_
 refine Bl (.bool false) (Dx (v:= .bool (decide (f<(l.getD 0 Sg.none).f))) (v':= .bool false) (congrArg Value.bool (decide_eq_false (by omega))) _) ?_
 refine Ae 3 ?_
 refine Ei (.bool false) .none (Dx (v:= .bool (decide (t<=f))) (v':= .bool false) (congrArg Value.bool (decide_eq_false (by omega))) _) ?_
 refine Ae 4 ?_
 refine Ei (.bool false) .none (Dx (v:= .bool (decide ((l.getD (l.length-1) Sg.none).t<t))) (v':= .bool false) (congrArg Value.bool (decide_eq_false (by omega))) _) ?_
 refine Ae 2 ?_
 refine As [0,1,2,21] ?_
 refine Bq (Aw ?_)
 refine Ab (Ae 3 ?_)
 refine Fg (by have:=wH l f t hl hok hf hft ht;unfold Qp at this;rw[if_neg h,(((aB l f t).resolve_left h).1)] at this;exact this) ?_
 refine Bl (.lit (.slice none 0 0)) (Dx (v:= .slice none 0 0) (v':= .slice none 0 0) rfl _) ?_
 refine qi 7 ?_
 refine Ae 2 ?_
 refine As [6,7] ?_
 refine Be ?_
 exact⟨.inl rfl,(Cv results21 (Ak (x:= .lit (.slice none 0 0)) (by kernel_rfl) (by kernel_rfl)) (Ak (x:= .int 7) (by kernel_rfl) (by kernel_rfl))).cast (by kernel_rfl)⟩
theorem Aa8 (l:List Sg) (f t:Int) (hl:Cm l) (hok:Dz l) (hf:(l.getD 0 Sg.none).f<=f) (hft:f<t) (ht:t<=(l.getD (l.length-1) Sg.none).t):AF Tryz.prog 21 [Bj l,.int f,.int t] (cW (My l f t)):=by
 by_cases h:(My l f t).2=0
 have:=dE l f t hl hok hf hft ht h
 rw[cW,h];exact this
 refine dJ (dC l f t hl hok hf hft ht h) rfl (λ_ _ _ _ h=>h) λE v hv=>?_
 have e:My l f t=([],7):=by
  have:=(aB l f t).resolve_left h
  exact Prod.ext this.2 this.1
 rw[e];exact hv.nil_P
theorem sY {s:Sg} (h:s.x.length<=6/\s.y.length<=6/\s.z.length<=6):RowsIn s:=⟨by omega,by omega,by omega⟩
theorem oO {s:Sg} {a b:Int} (ho:Gm s):(Cu s a b).x.length<=6/\(Cu s a b).y.length<=6/\(Cu s a b).z.length<=6:=by
 refine⟨?_,?_,?_⟩
 have:=eR s.x (a-s.f) (b-a) (pD s) ho.2.1.2.1
 show (Td _ _ _).length<=6
 rw[Ob];omega
 have:=eR s.y (a-s.f) (b-a) (pD s) ho.2.2.1.2.1
 show (Td _ _ _).length<=6
 rw[Ob];omega
 have:=eR s.z (a-s.f) (b-a) (pD s) ho.2.2.2.1.2.1
 show (Td _ _ _).length<=6
 rw[Ob];omega
theorem lJ {l:List Sg} {P:Sg->Prop} (h:∀s∈l,P s) (h0:P Sg.none) (i:Nat):P (l.getD i Sg.none):=by
 rw[List.getD_eq_getElem?_getD]
 cases hi:l[i]? with
 |none=>exact h0
 |some s=>exact h s (List.mem_of_getElem? hi)
theorem Zz {l:List Sg} {f t:Int}:∀n,n<=l.length->∀s∈Hr l f t n,∃i a b,i<l.length/\s=Cu (l.getD i Sg.none) a b/\pA l f i=a/\pB l t i=b
 |0,_,s,hs=>by cases hs
 |n+1,hn,s,hs=>by
  rw[Hr] at hs
  split at hs
  rcases List.mem_append.1 hs with h|h
  exact Zz n (by omega) s h
  rw[List.mem_singleton] at h
  exact⟨n,_,_,by omega,h,rfl,rfl⟩
  exact Zz n (by omega) s hs
theorem zI {f t:Int} {nx ny nz:Nat} {cx cy cz:Nat->Int} {o:Int} (hf:Cj f) (ht:Cj t):Nz (lF f t nx ny nz cx cy cz o):=by
 have key:∀n c g i,Cj ((Td n c g).getD i 0):=λn c g i=>by
  rw[fZ,Ha]
  split
  exact AbZ _
  exact Gw
 exact⟨hf,ht,AbZ _,key _ _ _,key _ _ _,key _ _ _⟩
theorem AaW {l:List Sg} {f t:Int} (hl:Cm l) (hok:Dz l) (hf:Cj f) (ht:Cj t):Cm (My l f t).1/\Ib (My l f t).1:=by
 unfold My
 split
 have hn:=kH l f t l.length
 have hlen:=hok.2
 have hm:=λs hs=>Zz (l:=l) (f:=f) (t:=t) l.length (Nat.le_refl _) s hs
 refine⟨⟨by show (Hr l f t l.length).length<=_;omega,λi=>lJ (P:=Nz) (λs hs=>?_) (Cm.nil.2 0) i⟩,⟨by show (Hr l f t l.length).length<=_;omega,λi=>lJ (P:=RowsIn) (λs hs=>?_) (Ib.nil.2 0) i⟩⟩
 obtain⟨j,a,b,hj,rfl,rfl,rfl⟩:=hm s hs
 have h1:=(hl.2 j).f
 have h2:=(hl.2 j).t
 exact zI (by show -9223372036854775808<=max f _/\max f _<=9223372036854775807;omega) (by show -9223372036854775808<=min t _/\min t _<=9223372036854775807;omega)
 obtain⟨j,a,b,hj,rfl,_,_⟩:=hm s hs
 exact sY (oO (hok.1 j hj).1)
 exact⟨Cm.nil,Ib.nil⟩
end Go.Proofs.YtkcnbaeoahoglaaGreat