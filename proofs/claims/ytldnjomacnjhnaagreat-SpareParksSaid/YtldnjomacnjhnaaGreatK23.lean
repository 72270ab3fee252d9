/- Part 23 of the proof of SK.row_holds, joined by program: no condition beyond the row's own. -/
import Derived.Test.YtldnjomacnjhnaaGreatK22
import Derived.Test.YtldnjomacnjhnaaGreatRows
import Derived.LaidMore
import Derived.OpenShut
import Derived.ShutString
import Derived.ChangeOld
import Derived.Lib.LaidTab
import Derived.Stop.Joined
import Derived.HandedShaped
import Derived.Deep.Fields
set_option maxRecDepth 100000
set_option maxHeartbeats 40000000
namespace Go.Proofs.YtldnjomacnjhnaaGreat.Open
open Go.ChangeShapes Go.WideShapes Go.ChangeAt Go.RowKit Go.Deep
section
variable {H:Type} {enc:TypeId×Value->H} {W:World} {n:Nat} {y:DataW H×List MemPlace} {cs:List Value}
theorem wZ (hl:cs.length=3) (h:DataW.trod enc Tryz.prog W 0 (λ_=>true) true n 87 cs=some y):∃a:Ac,zU W (rg 0 W.heap.size) a cs/\(a.name.size<=maxLen/\Co a.len):=by
 match cs,hl with
 |[a,b,c],_=>
  obtain⟨m0,z0,h0⟩:=Gq (ty:=9) (off:=0) Tryz.underlying87 h 0 (by rfl)
  obtain⟨m1,z1,h1⟩:=Gq (ty:=3) (off:=1) Tryz.underlying87 h 1 (by rfl)
  obtain⟨m2,z2,h2⟩:=Gq (ty:=85) (off:=2) Tryz.underlying87 h 2 (by rfl)
  simp only[Aau,AdH,Ac1] at h0 h1 h2
  obtain⟨s,e0,_,hs⟩:=DataW.trod_string Tryz.underlying9 h0
  obtain⟨k1,e1,f1⟩:=Kb h1
  obtain⟨ad,len,cap,e2⟩:=Go.Joins.slice_form Tryz.underlying85 h2
  rw[e2] at h2
  obtain⟨l,g1,g2,g3,_⟩:=Mc Tryz.underlying85 Aeb δ h2
  obtain⟨L,L1,L2⟩:=Uw (cells:=Mv.cells) l (λcs hc=>by obtain⟨hl,n,y,ht⟩:=g2 cs hc;exact xA hl ht)
  simp at e0 e1 e2
  refine⟨⟨s,k1,L⟩,⟨.slice ad len cap,by simp[e0,e1,e2],?_⟩,hs,f1⟩
  show Cv W _ 6 _ L.length (wS L)
  have hL:L.length=len:=by omega
  rw[hL]
  unfold wS
  rw[<-L2]
  exact g3
theorem lC:∀(l:List (List Value)) (_:∀cs∈l,∃a:Ac,zU W (rg 0 W.heap.size) a cs/\(a.name.size<=maxLen/\Co a.len)),∃L:List Ac,L.length=l.length/\Qj W (rg 0 W.heap.size) L l.flatten/\∀a∈L,(a.name.size<=maxLen/\Co a.len)
 |[],_=>⟨[],rfl,rfl,by simp⟩
 |cs::l,h=>by
  obtain⟨a,ha,hs⟩:=h cs (by simp)
  obtain⟨L,h1,h2,h3⟩:=lC l (λc hc=>h c (by simp[hc]))
  refine⟨a::L,by simp[h1],⟨cs,l.flatten,by simp,ha,h2⟩,λx hx=>?_⟩
  rcases List.mem_cons.1 hx with rfl|hx
  exact hs
  exact h3 x hx
theorem open_prog2 {v:Value} {d:DataW H} {p:List MemPlace} {base:Nat} (hv:Value.okWide Tryz.prog W .any base 31 v) (h:DataW.Trod enc Tryz.prog W 0 (λ_=>true) true 31 v d p):
  ∃(vn vh va:Value) (pr:Pr),v= .agg #[vn,vh,va]/\Hu W W.heap.size vn vh va pr/\(∀s∈pr.names,s.size<=maxLen)/\(∀a∈pr.acts,(a.name.size<=maxLen/\Co a.len)):=by
 obtain⟨v0,v1,v2,y0,y1,y2,n,rfl,_,_,h0,h1,h2⟩:=Go.Joins.open_agg3 Tryz.underlying31 κ κ hv h
 obtain⟨a0,l0,c0,e0⟩:=Go.Joins.slice_form Tryz.underlying28 h0
 obtain⟨a1,l1,c1,e1⟩:=Go.Joins.slice_form Tryz.underlying22 h1
 obtain⟨a2,l2,c2,e2⟩:=Go.Joins.slice_form Tryz.underlying29 h2
 obtain rfl:v0= .slice a0 l0 c0:=by simpa using e0
 obtain rfl:v1= .slice a1 l1 c1:=by simpa using e1
 obtain rfl:v2= .slice a2 l2 c2:=by simpa using e2
 obtain⟨N,hN,sN,_,zN⟩:=qM h0
 obtain⟨lh,g1,g2,g3,_⟩:=Mc Tryz.underlying22 Aav δ h1
 obtain⟨Hm,H1,H2⟩:=Uw (cells:=λv:V3=>[.int .i64 v.x,.int .i64 v.y,.int .i64 v.z]) lh (λcs hc=>by obtain⟨hl,n,y,ht⟩:=g2 cs hc;exact aR hl ht)
 obtain⟨la,k1,k2,k3,_⟩:=Mc Tryz.underlying29 AeP δ h2
 obtain⟨Ac,A1,A2,A3⟩:=lC la (λcs hc=>by obtain⟨hl,n,y,ht⟩:=k2 cs hc;exact wZ hl ht)
 refine⟨_,_,_,⟨N,Hm,Ac⟩,rfl,⟨sN,?_,la.flatten,?_,A2⟩,zN,A3⟩
 have hL:Hm.length=l1:=by omega
 show Bx W 0 W.heap.size 3 _ Hm.length (Io Hm)
 rw[hL]
 unfold Io
 rw[<-H2]
 exact g3
 have hL:Ac.length=l2:=by omega
 show Bx W 0 W.heap.size 3 _ Ac.length _
 rw[hL]
 exact k3
theorem nD {a0:Option Addr} {len0 cap0 fuel:Nat} {t e:TypeId} (ht:Tryz.prog.underlying t=some (.slice e)) (h:DataW.trod enc Tryz.prog W 0 (λ_=>true) true fuel t [.slice a0 len0 cap0]=some y):len0<=cap0:=by
 rcases open_slice ht h with⟨hcs,_⟩|⟨x,n,c,m,nn,D,Pl,hcs,_,hl,hm,hmm,_,hi⟩
 simp at hcs
 obtain⟨rfl,rfl,rfl⟩:=hcs
 exact Nat.le_refl _
 simp at hcs
 obtain⟨rfl,rfl,rfl⟩:=hcs
 have hmm':m=cap0:=by simpa using hmm
 omega
end
end Go.Proofs.YtldnjomacnjhnaaGreat.Open
namespace Go.Proofs.YtldnjomacnjhnaaGreat
open Go.RowKit
theorem uO {w:World} {D:Nat->Prop} {l:List V3} {v:Value} (h:Cv w D 3 v l.length (Io l)) {E:Bk} (hw:E.w=w) (hD:∀b,D b->E.D b):VR E (Hl l) v:=
 Np h hw hD λi j hi hj=>by
  have:=Ly (λv:V3=>[Value.int .i64 v.x,.int .i64 v.y,.int .i64 v.z]) 3 (λ_=>rfl) l i j V3.zero hi hj
  unfold Io
  rw[this]
  match j,hj with
  |0,_=>exact .lit _ _
  |1,_=>exact .lit _ _
  |2,_=>exact .lit _ _
theorem Aem {w:World} {D:Nat->Prop} {l:List Mv} {v:Value} (h:Cv w D 6 v l.length (wS l)) {E:Bk} (hw:E.w=w) (hD:∀b,D b->E.D b):VR E (AcP l) v:=
 Np h hw hD λi j hi hj=>by
  have:=Ly Mv.cells 6 (λ_=>rfl) l i j Mv.none hi hj
  unfold wS
  rw[this]
  match j,hj with
  |0,_=>exact .lit _ _
  |1,_=>exact .lit _ _
  |2,_=>exact .lit _ _
  |3,_=>exact .lit _ _
  |4,_=>exact .lit _ _
  |5,_=>exact .lit _ _
theorem Abf {w:World} {D:Nat->Prop} {l:List ByteArray} {v:Value} (h:Cv w D 1 v l.length (strs l)) {E:Bk} (hw:E.w=w) (hD:∀b,D b->E.D b):VR E (Fc l) v:=
 Np h hw hD λi j hi hj=>by
  obtain rfl:j=0:=by omega
  have e:(strs l).getD (i*1+0) undef= .string (l.getD i ByteArray.empty):=by simp[strs,List.getD_eq_getElem?_getD,hi]
  rw[e]
  exact .lit _ _
theorem Acv {w:World} {D:Nat->Prop} {l:List Ac} {v:Value} {cs:List Value} (h:Cv w D 3 v l.length cs) (ha:Qj w D l cs) {E:Bk} (hw:E.w=w) (hD:∀b,D b->E.D b):VR E (Gs l) v:=
 Np h hw hD λi j hi hj=>by
  obtain⟨vm,hm,hat⟩:=ha.at_ hi
  have e:l.getD i Ac.none=l[i]:=by rw[List.getD_eq_getElem?_getD,List.getElem?_eq_getElem hi];rfl
  have g:∀u,[Value.string l[i].name,.int .i64 l[i].len,vm][j]?=some u->cs.getD (i*3+j) undef=u:=λu hu=>by
   rw[List.getD_eq_getElem?_getD,hat j u hu];rfl
  rw[e]
  match j,hj with
  |0,_=>rw[g _ rfl];exact .lit _ _
  |1,_=>rw[g _ rfl];exact .lit _ _
  |2,_=>rw[g _ rfl];exact Aem (E:=E.fz) hm hw hD
theorem Adg {w:World} {hi:Nat} {vn vh va:Value} {p:Pr} (h:Hu w hi vn vh va p) {E:Bk} (hw:E.w=w) (hD:∀b,b<hi->E.D b):VR E (Ey p) (.agg #[vn,vh,va]):=by
 obtain⟨cs,k1,k2⟩:=h.acts
 have hD2:∀b,rg 0 hi b->E.D b:=λb hb=>hD b hb.2
 refine .agg _ _ _ rfl λi hi=>?_
 have h3:i<3:=hi
 match i,h3 with
 |0,_=>exact Abf h.names hw hD2
 |1,_=>exact uO h.homes hw hD2
 |2,_=>exact Acv k1 k2 hw hD2
theorem AF.call {P:Program} {f:FuncId} {args:List AV} {v:Value} (h:AF P f args (.lit v)) (W:World) (vs:Array Value) (hn:vs.size=args.length) (hv:∀E:Bk,E.w=W->(∀b,b<W.heap.size->E.D b)->∀i,i<args.length->VR E (args.getD i .top) (vs.getD i undef)):Calls P f vs W λe w'=>e= .returned v/\Below W.heap.size W w':=by
 refine(h { π:=λ_=>0,cap:=λ_=>0,A:=λ_=>False,D:=λb=>b<W.heap.size,w:=W } vs (λb hb=>hb) hn λi hi=>hv _ rfl (λb hb=>hb) i hi).mono ?_
 rintro e w' ⟨u,D',rfl,hr,hb,_⟩
 exact⟨by rw[hr.lit_inv],hb⟩
end Go.Proofs.YtldnjomacnjhnaaGreat
namespace Go.Proofs.YtldnjomacnjhnaaGreat
end Go.Proofs.YtldnjomacnjhnaaGreat
namespace Go.Proofs.YtldnjomacnjhnaaGreat
open Go.Proofs.Tryz
open Go.RowKit
theorem eM {a b:List Int} (h:a.length=b.length) (hq:∀q,q<a.length->a.getD q 0=b.getD q 0):a=b:=by
 refine List.ext_getElem h λi h1 h2=>?_
 have:=hq i h1
 rwa [List.getD_eq_getElem?_getD,List.getD_eq_getElem?_getD,List.getElem?_eq_getElem h1,List.getElem?_eq_getElem h2] at this
theorem Wa (a b:List Int) (ha:a.length<=1000000) (hb:b.length<=1000000):AF Tryz.prog 58 [Bf a,Bf b] (.bool (bP (a=b))):=by
 refine Cc func58 rfl λB D0 hA0=>?_
 refine Ae 15 (yL 10 ((a.length:Int)=(b.length:Int)) (λhx1 hx1d=>?_) (λhx1 hx1d=>?_))
 ·
  refine Ae 12 (Lh [0,1,12,13] a.length (λi=>∀q,q<i->a.getD q 0=b.getD q 0) (λi=>⟨[(0,Bf a),(1,Bf b),(12,.int (a.length:Int)),(13,.int (i:Int))],[],0,26⟩) (λq hq=>absurd hq (Nat.not_lt_zero q)) (λi hin hFi J1 hJ1=>?_))
  refine Ae 6 (Fd 14 ((i:Int)<(a.length:Int)) (λhx2 hx2d=>?_) (λhx2 hx2d=>?_))
  ·
   refine Ae 12 (Jf [(2,Fi (Bf a) i,.none),(6,Fi (Bf b) i,.none)] [0,1,12,13,24] ⟨Ni i a.length,Ni i b.length,trivial⟩ (Ae 1 (yL 24 ((a).getD i 0=(b).getD i 0) (λhx3 hx3d=>?_) (λhx3 hx3d=>?_))))
   ·
    exact Ae 5 (Ev ((i:Int)+1) ((i+1:Nat):Int) (Ae 2 (Ob [0,1,12,13] (hJ1 ω (λq hq=>(Nat.lt_or_ge q i).elim (λg=>hFi q g) λg=>by have e:q=i:=(ω);subst e;omega)))))
   ·
    exact Ae 12 (Fa (.bool false) (congrArg AV.bool (Ao (λh=>by subst h;omega)).symm))
  ·
   exact Ae 12 (Fa (.bool true) (congrArg AV.bool (Dm (eM ω (λq hq=>hFi q ω))).symm))
 ·
  exact Ae 8 (Fa (.bool false) (congrArg AV.bool (Ao (λh=>by subst h;omega)).symm))
def RowsIn (s:Sg):Prop:=s.x.length<=1000000/\s.y.length<=1000000/\s.z.length<=1000000
theorem Ab2 {s t:Sg} (h1:s.f=t.f) (h2:s.t=t.t) (h3:s.o=t.o) (h4:s.x=t.x) (h5:s.y=t.y) (h6:s.z=t.z):s=t:=by
 cases s;cases t;simp_all
theorem zD (s t:Sg) (hs:RowsIn s) (ht:RowsIn t):AF Tryz.prog 57 [Cn s,Cn t] (.bool (bP (s=t))):=by
 refine Cc func57 rfl λB D0 hA0=>?_
 refine Ae 15 (Fd 10 (s.f=t.f) (λhx1 hx1d=>?_) (λhx1 hx1d=>?_))
 ·
  refine Ae 7 (Fd 17 (s.t=t.t) (λhx2 hx2d=>?_) (λhx2 hx2d=>?_))
  ·
   refine Ae 7 (Fd 24 (s.o=t.o) (λhx3 hx3d=>?_) (λhx3 hx3d=>?_))
   ·
    refine Ae 4 (Ct (Wa s.x t.x hs.1 ht.1) (Ae 2 (oT 31 (bP (s.x=t.x)) (λhx4=>?_) (λhx4=>?_))))
    ·
     refine Ae 4 (Ct (Wa s.y t.y hs.2.1 ht.2.1) (Ae 2 (oT 38 (bP (s.y=t.y)) (λhx5=>?_) (λhx5=>?_))))
     ·
      exact Ae 4 (Ct (Wa s.z t.z hs.2.2 ht.2.2) (Ae 5 (Fa (.bool (bP (s.z=t.z))) (congrArg AV.bool (Aam ⟨λh=>Ab2 ω ω ω (Ew hx4) (Ew hx5) h,congrArg Sg.z⟩)))))
     ·
      exact Ae 10 (Fa (.bool false) (congrArg AV.bool (Ao (λh=>Pf hx5 (congrArg Sg.y h))).symm))
    ·
     exact Ae 17 (Fa (.bool false) (congrArg AV.bool (Ao (λh=>Pf hx4 (congrArg Sg.x h))).symm))
   ·
    exact Ae 24 (Fa (.bool false) (congrArg AV.bool (Ao (λh=>by have e1:=congrArg Sg.f h;have e2:=congrArg Sg.t h;have e3:=congrArg Sg.o h;omega)).symm))
  ·
   exact Ae 31 (Fa (.bool false) (congrArg AV.bool (Ao (λh=>by have e1:=congrArg Sg.f h;have e2:=congrArg Sg.t h;have e3:=congrArg Sg.o h;omega)).symm))
 ·
  exact Ae 38 (Fa (.bool false) (congrArg AV.bool (Ao (λh=>by have e1:=congrArg Sg.f h;have e2:=congrArg Sg.t h;have e3:=congrArg Sg.o h;omega)).symm))
theorem Abp {a b:List Sg} (h:a.length=b.length) (hq:∀q,q<a.length->a.getD q Sg.none=b.getD q Sg.none):a=b:=by
 refine List.ext_getElem h λi h1 h2=>?_
 have:=hq i h1
 rwa [List.getD_eq_getElem?_getD,List.getD_eq_getElem?_getD,List.getElem?_eq_getElem h1,List.getElem?_eq_getElem h2] at this
def Qd (l:List Sg):Prop:=l.length<=1000000/\∀i,RowsIn (l.getD i Sg.none)
theorem uT (a b:List Sg) (ha:Qd a) (hb:Qd b):AF Tryz.prog 56 [Ai a,Ai b,.fn 57 []] (.bool (bP (a=b))):=by
 have ha1:=ha.1
 have hb1:=hb.1
 refine Cc func56 rfl λB D0 hA0=>?_
 refine Ae 15 (yL 14 (((a).length:Int)=((b).length:Int)) (λhx1 hx1d=>?_) (λhx1 hx1d=>?_))
 ·
  refine Ae 12 (Lh [1,2,15,16,17] a.length (λi=>∀q,q<i->a.getD q Sg.none=b.getD q Sg.none) (λi=>⟨[(1,Ai b),(2,.fn 57 []),(15,Ai a),(16,.int ((a).length:Int)),(17,.int (i:Int))],[],0,32⟩) (λq hq=>absurd hq (Nat.not_lt_zero q)) (λi hin hFi J1 hJ1=>?_))
  refine Ae 6 (Fd 18 ((i:Int)<((a).length:Int)) (λhx2 hx2d=>?_) (λhx2 hx2d=>?_))
  ·
   refine Ae 8 (Ga i ((a).length) (Ae 10 (Ga i ((b).length) (Ae 10 (Af2 (zD (a.getD i Sg.none) (b.getD i Sg.none) (ha.2 i) (hb.2 i)) (Ae 3 (cX 30 (bP ((a.getD i Sg.none)=(b.getD i Sg.none))) (λhx3=>?_) (λhx3=>?_))))))))
   ·
    exact Ae 5 (Ev ((i:Int)+1) ((i+1:Nat):Int) (Ae 2 (Gk [1,2,15,16,17] [] 0 0 hA0 [] trivial (hJ1 ω (λq hq=>(Nat.lt_or_ge q i).elim (λg=>hFi q g) λg=>by have e:q=i:=(ω);subst e;exact Ew hx3)))))
   ·
    exact Ae 12 (Fa (.bool false) (congrArg AV.bool (Ao (λh=>Pf hx3 (by rw[h]))).symm))
  ·
   exact Ae 12 (Fa (.bool true) (congrArg AV.bool (Dm (Abp ω (λq hq=>hFi q ω))).symm))
 ·
  exact Ae 8 (Fa (.bool false) (congrArg AV.bool (Ao (λh=>by subst h;omega)).symm))
theorem zE (a b:List Sg) (ha:Qd a) (hb:Qd b):AF Tryz.prog 23 [Ai a,Ai b] (.bool (bP (a=b))):=by
 refine Cc func23 rfl λB D0 hA0=>?_
 exact Ae 9 (Ct (uT a b ha hb) (Ae 4 (Gc)))
theorem zQ {f:FuncId} {args args':List AV} {r r':AV} (h:AF Tryz.prog f args r) (hl:args'.length=args.length) (ha:∀i,i<args.length->∀E v,VR E (args'.getD i .top) v->VR E (args.getD i .top) v) (hr:∀E v,VR E r v->VR E r' v):AF Tryz.prog f args' r':=λE vs hD hn hv=>by
 refine Calls.mono (h E vs hD ω λi hi=>ha i hi _ _ (hv i ω)) ?_
 rintro e w' ⟨v,D',h1,h2,h3⟩
 exact⟨v,D',h1,hr _ _ h2,h3⟩
theorem cI (a:List Sg) (ha:Qd a):AF Tryz.prog 23 [Ai a,Ai a] (.bool true):=by
 have:=zE a a ha ha
 rwa [Dm rfl] at this
theorem fN (l:List V3) (n:Nat) (v:V3) (hn:n<=1000000):AF Tryz.prog 34 [.slc 3 n λi=>Hc (l.getD i V3.zero),Hc v] (.bool (bP (∃q,q<n/\(l.getD q V3.zero).x=v.x/\(l.getD q V3.zero).y=v.y/\(l.getD q V3.zero).z=v.z))):=
 zQ (kI l n v hn) rfl (λi hi E u h=>by
  match i,hi with
  |0,_=>cases h;assumption
  |1,_=>exact h) λ_ _ h=>h
theorem dI (l:List Int) (M:Int) (hl:l.length<=1000000):AF Tryz.prog 35 [Dh l,.int 0,.int M] (.bool (bP (Nu l M))):=by
 refine Cc func35 rfl λB D0 hA0=>?_
 refine Ae 12 (Fd 12 ((l.length:Int)<1) (λhx1 hx1d=>?_) (λhx1 hx1d=>?_))
 ·
  exact Ae 31 (Fa (.bool false) (congrArg AV.bool (Ao (by rintro⟨g1,g2,g3⟩;first|omega|(have:=(g3 0 ω).1;omega)|(have:=(g3 (l.length-1) ω).2.1;omega)|(have:=(g3 (1+k) ω).2.2 ω;rw[Nat.add_sub_cancel_left] at this;omega))).symm))
 ·
  refine Ae 5 (Fd 17 ((16:Int)<(l.length:Int)) (λhx2 hx2d=>?_) (λhx2 hx2d=>?_))
  ·
   exact Ae 26 (Fa (.bool false) (congrArg AV.bool (Ao (by rintro⟨g1,g2,g3⟩;first|omega|(have:=(g3 0 ω).1;omega)|(have:=(g3 (l.length-1) ω).2.1;omega)|(have:=(g3 (1+k) ω).2.2 ω;rw[Nat.add_sub_cancel_left] at this;omega))).symm))
  ·
   refine Ae 1 (Ga 0 l.length (Ae 5 (Fd 24 ((l).getD 0 0<0) (λhx3 hx3d=>?_) (λhx3 hx3d=>?_))))
   ·
    exact Ae 19 (Fa (.bool false) (congrArg AV.bool (Ao (by rintro⟨g1,g2,g3⟩;first|omega|(have:=(g3 0 ω).1;omega)|(have:=(g3 (l.length-1) ω).2.1;omega)|(have:=(g3 (1+k) ω).2.2 ω;rw[Nat.add_sub_cancel_left] at this;omega))).symm))
   ·
    refine Ae 3 (Ev ((l.length:Int)-1) ((l.length-1:Nat):Int) (Ga (l.length-1) l.length (Ae 6 (Fd 33 (M<(l).getD (l.length-1) 0) (λhx4 hx4d=>?_) (λhx4 hx4d=>?_)))))
    ·
     exact Ae 8 (Fa (.bool false) (congrArg AV.bool (Ao (by rintro⟨g1,g2,g3⟩;first|omega|(have:=(g3 0 ω).1;omega)|(have:=(g3 (l.length-1) ω).2.1;omega)|(have:=(g3 (1+k) ω).2.2 ω;rw[Nat.add_sub_cancel_left] at this;omega))).symm))
    ·
     refine Ae 7 (Cb (.sl 1 (l.length-1) (λxi=>(λi0=> .int ((l).getD i0 0)) (1+xi))) .none (jA 23 (.tmp 34) (some (.const (.int .i64 1))) none κ underlying23 1 l.length sizeOf3 (λi0=> .int ((l).getD i0 0)) κ 1 l.length (.inr ⟨(.const (.int .i64 1)),1,rfl,κ,ω⟩) (.inl ⟨rfl,rfl⟩) ω ω) (Ae 5 (Lh [0,35,36,37] (l.length-1) (λk=>∀q,q<k->l.getD q 0<l.getD (1+q) 0) (λk=>⟨[(0,Dh l),(35,.sl 1 (l.length-1) (λxi=>(λi0=> .int ((l).getD i0 0)) (1+xi))),(36,.int ((l.length-1:Nat):Int)),(37,.int (k:Int))],[],0,49⟩) (λq hq=>absurd hq (Nat.not_lt_zero q)) (λk hkn hFk J1 hJ1=>?_))))
     refine Ae 6 (Fd 38 ((k:Int)<((l.length-1:Nat):Int)) (λhx5 hx5d=>?_) (λhx5 hx5d=>?_))
     ·
      refine Ae 8 (Ga k (l.length-1) (Ae 10 (Ga k l.length (Ae 4 (Fd 47 ((l).getD (1+k) 0<=(l).getD k 0) (λhx6 hx6d=>?_) (λhx6 hx6d=>?_))))))
      ·
       exact Ae 12 (Fa (.bool false) (congrArg AV.bool (Ao (by rintro⟨g1,g2,g3⟩;first|omega|(have:=(g3 0 ω).1;omega)|(have:=(g3 (l.length-1) ω).2.1;omega)|(have:=(g3 (1+k) ω).2.2 ω;rw[Nat.add_sub_cancel_left] at this;omega))).symm))
      ·
       exact Ae 5 (Ev ((k:Int)+1) ((k+1:Nat):Int) (Ae 2 (Ob [0,35,36,37] (hJ1 ω (λq hq=>(Nat.lt_or_ge q k).elim (λg=>hFk q g) λg=>by have e:q=k:=(ω);subst e;omega)))))
     ·
      exact Ae 12 (Fa (.bool true) (congrArg AV.bool (Dm (Adn ω ω ω ω (λi hi=>hFk i ω))).symm))
theorem Xf (l:List Int) (M:Int) (hl:l.length<=1000000):AF Tryz.prog 36 [Dh l,.int M] (.bool (bP (Nu l M))):=by
 refine Cc func36 rfl λB D0 hA0=>?_
 refine Ae 12 (Lh [0,1,5] l.length (λi=>∀q,q<i->0<=l.getD q 0/\l.getD q 0<=M/\(0<q->l.getD (q-1) 0<l.getD q 0)) (λi=>⟨[(0,Dh l),(1,.int M),(5,.int (i:Int))],[],0,49⟩) (λq hq=>absurd hq (Nat.not_lt_zero q)) (λi hin hFi J1 hJ1=>?_))
 refine Ae 9 (Fd 9 ((i:Int)<(l.length:Int)) (λhx1 hx1d=>?_) (λhx1 hx1d=>?_))
 ·
  refine Ae 6 (uP ((l).getD i 0<0) (λhx2 hx2d=>?_) (λhx2 hx2d=>?_))
  ·
   exact Jf [(2,Fi (Dh l) i,.none),(4,.bool true,.none)] [0,1,5,40] ⟨Ni i l.length,jX hx2,trivial⟩ (Ae 13 (Fa (.bool false) (congrArg AV.bool ((Ao (by rintro⟨g1,g2,g3⟩;first|omega|(have:=(g3 i ω).1;omega)|(have:=(g3 i ω).2.1;omega)|(have:=(g3 i ω).2.2 ω;omega))).symm))))
  ·
   refine uP (M<(l).getD i 0) (λhx3 hx3d=>?_) (λhx3 hx3d=>?_)
   ·
    exact Jf [(2,Fi (Dh l) i,.none),(4,.bool false,.none),(8,Fi (Dh l) i,.none),(11,.bool true,.none)] [0,1,5,40] ⟨Ni i l.length,jX hx2,Ni i l.length,jX hx3,trivial⟩ (Ae 13 (Fa (.bool false) (congrArg AV.bool ((Ao (by rintro⟨g1,g2,g3⟩;first|omega|(have:=(g3 i ω).1;omega)|(have:=(g3 i ω).2.1;omega)|(have:=(g3 i ω).2.2 ω;omega))).symm))))
   ·
    refine uP ((0:Int)<(i:Int)) (λhx4 hx4d=>?_) (λhx4 hx4d=>?_)
    ·
     refine Jf [(2,Fi (Dh l) i,.none),(4,.bool false,.none),(8,Fi (Dh l) i,.none),(11,.bool false,.none),(15,.bool true,.none),(19,Fi (Dh l) i,.none),(23,.int ((i-1:Nat):Int),.none),(24,Fi (Dh l) (i-1),.none)] [0,1,5,40] ⟨Ni i l.length,jX hx2,Ni i l.length,jX hx3,jX hx4,Ni i l.length,Bc (Ca (v:= .int .i64 (IntKind.wrap .i64 ((i:Int)-1))) (v':= .int .i64 ((i-1:Nat):Int)) _ κ rfl κ (λw=>by kernel_rfl) (congrArg (Value.int .i64) ((IntWalk.i64_in _ ω).trans ω))),Ni (i-1) l.length,trivial⟩ (Ae 1 (Fd 40 ((l).getD i 0<=(l).getD (i-1) 0) (λhx5 hx5d=>?_) (λhx5 hx5d=>?_)))
     ·
      exact Ae 12 (Fa (.bool false) (congrArg AV.bool ((Ao (by rintro⟨g1,g2,g3⟩;first|omega|(have:=(g3 i ω).1;omega)|(have:=(g3 i ω).2.1;omega)|(have:=(g3 i ω).2.2 ω;omega))).symm)))
     ·
      exact Ae 6 (Ev ((i:Int)+1) ((i+1:Nat):Int) (Ae 2 (Ob [0,1,5] (hJ1 ω (λq hq=>(Nat.lt_or_ge q i).elim (λg=>hFi q g) λg=>by have e:q=i:=(ω);subst e;exact⟨ω,ω,λh0=>by omega⟩)))))
    ·
     exact Jf [(2,Fi (Dh l) i,.none),(4,.bool false,.none),(8,Fi (Dh l) i,.none),(11,.bool false,.none),(15,.bool false,.none)] [0,1,5,40] ⟨Ni i l.length,jX hx2,Ni i l.length,jX hx3,jX hx4,trivial⟩ (Ae 7 (Ev ((i:Int)+1) ((i+1:Nat):Int) (Ae 2 (Ob [0,1,5] (hJ1 ω (λq hq=>(Nat.lt_or_ge q i).elim (λg=>hFi q g) λg=>by have e:q=i:=(ω);subst e;exact⟨ω,ω,λh0=>by omega⟩))))))
 ·
  refine Ae 12 (Fd 44 ((1:Int)<=(l.length:Int)) (λhx6 hx6d=>?_) (λhx6 hx6d=>?_))
  ·
   exact Ae 8 (Fa (.bool (decide ((l.length:Int)<=16))) (congrArg AV.bool (if hz:(l.length:Int)<=16 then (decide_eq_true hz).trans (Dm ⟨ω,ω,λq hq=>hFi q ω⟩).symm else (decide_eq_false hz).trans ((Ao (by rintro⟨g1,g2,g3⟩;first|omega|(have:=(g3 i ω).1;omega)|(have:=(g3 i ω).2.1;omega)|(have:=(g3 i ω).2.2 ω;omega))).symm))))
  ·
   exact Ae 8 (Fa (.bool false) (congrArg AV.bool ((Ao (by rintro⟨g1,g2,g3⟩;first|omega|(have:=(g3 i ω).1;omega)|(have:=(g3 i ω).2.1;omega)|(have:=(g3 i ω).2.2 ω;omega))).symm)))
theorem Ko (r:Rv) (hr:Ue r):AF Tryz.prog 11 [Hf r] (.bool (bP (Kd r))):=by
 have h1:=hr.n
 have h2:=hr.w
 have h3:=hr.s
 refine Cc func11 rfl λB D0 hA0=>?_
 refine Ae 14 (Fd 9 ((r.homes.length:Int)<1) (λhx1 hx1d=>?_) (λhx1 hx1d=>?_))
 ·
  exact Ae 31 (Fa (.bool false) (congrArg AV.bool (Ao (by rintro⟨⟨g5,g6,g7,g8,g9⟩,g2,g3,g4⟩;first|omega|(have:=(g2 i ω).2 j ω;omega))).symm))
 ·
  refine Ae 6 (Fd 15 ((8:Int)<(r.homes.length:Int)) (λhx2 hx2d=>?_) (λhx2 hx2d=>?_))
  ·
   exact Ae 25 (Fa (.bool false) (congrArg AV.bool (Ao (by rintro⟨⟨g5,g6,g7,g8,g9⟩,g2,g3,g4⟩;first|omega|(have:=(g2 i ω).2 j ω;omega))).symm))
  ·
   refine Ae 5 (Fd 20 (r.flight<4) (λhx3 hx3d=>?_) (λhx3 hx3d=>?_))
   ·
    exact Ae 20 (Fa (.bool false) (congrArg AV.bool (Ao (by rintro⟨⟨g5,g6,g7,g8,g9⟩,g2,g3,g4⟩;first|omega|(have:=(g2 i ω).2 j ω;omega))).symm))
   ·
    refine Ae 5 (Fd 25 ((3600000:Int)<r.flight) (λhx4 hx4d=>?_) (λhx4 hx4d=>?_))
    ·
     exact Ae 15 (Fa (.bool false) (congrArg AV.bool (Ao (by rintro⟨⟨g5,g6,g7,g8,g9⟩,g2,g3,g4⟩;first|omega|(have:=(g2 i ω).2 j ω;omega))).symm))
    ·
     refine Ae 2 (Mt (.int .i64 (Int.tmod r.flight 4)) (.int .i64 (tm4 r.flight)) ?_ rfl)
     refine Ae 4 (yL 30 (tm4 r.flight=0) (λhx5 hx5d=>?_) (λhx5 hx5d=>?_))
     ·
      refine Ae 13 (Lh [1,32,33,34] r.homes.length (λi=>∀q,q<i->Dy 1048576 [(r.homes.getD q V3.zero).x,(r.homes.getD q V3.zero).y,(r.homes.getD q V3.zero).z]=true/\∀j,j<q->¬((r.homes.getD j V3.zero).x=(r.homes.getD q V3.zero).x/\(r.homes.getD j V3.zero).y=(r.homes.getD q V3.zero).y/\(r.homes.getD j V3.zero).z=(r.homes.getD q V3.zero).z)) (λi=>⟨[(1,.ptr 0 0),(32,Ll r.homes),(33,.int (r.homes.length:Int)),(34,.int (i:Int))],[(0,.box 25 [Ll r.homes,.int r.flight,Dh r.waits,Dh r.rises])],1,59⟩) (λq hq=>absurd hq (Nat.not_lt_zero q)) (λi hin hFi J1 hJ1=>?_))
      refine Ae 6 (Fd 35 ((i:Int)<(r.homes.length:Int)) (λhx6 hx6d=>?_) (λhx6 hx6d=>?_))
      ·
       refine Ae 8 (Ga i r.homes.length (Ae 7 ?_))
       refine Gn (Dy 1048576 [(r.homes.getD i V3.zero).x,(r.homes.getD i V3.zero).y,(r.homes.getD i V3.zero).z]) (λhx7=>?_) (λhx7=>?_)
       ·
        refine Jf [(1,.bool true,.none),(7,.slc 3 i (λi0=>Hc (r.homes.getD i0 V3.zero)),.none),(9,_,.none)] [1,32,33,34,49] ⟨kbC hx7 (Fx (Ty (r.homes.getD i V3.zero))),Bc (Sw 22 (.tmp 44) (.tmp 45) κ underlying22 3 r.homes.length sizeOf36 (λi0=>Hc (r.homes.getD i0 V3.zero)) κ i (i:Int) κ ω ω),Fx (fN r.homes i (r.homes.getD i V3.zero) ω),trivial⟩ (Ae 1 (oT 49 (bP (∃q,q<i/\(r.homes.getD q V3.zero).x=(r.homes.getD i V3.zero).x/\(r.homes.getD q V3.zero).y=(r.homes.getD i V3.zero).y/\(r.homes.getD q V3.zero).z=(r.homes.getD i V3.zero).z)) (λhx8=>?_) (λhx8=>?_)))
        ·
         exact Ae 12 (Fa (.bool false) (congrArg AV.bool (Ao (by rintro⟨⟨g5,g6,g7,g8,g9⟩,g2,g3,g4⟩;first|omega|(obtain⟨q,hq,hc⟩:=Ew hx8;exact(g2 i ω).2 q hq hc)|(have:=(g2 i ω).2 j ω;omega))).symm))
        ·
         exact Ae 5 (Ev ((i:Int)+1) ((i+1:Nat):Int) (Ae 2 (Gk [1,32,33,34] [(0,0)] 1 0 hA0 [] trivial (hJ1 ω (λq hq=>(Nat.lt_or_ge q i).elim (λg=>hFi q g) λg=>by have e:q=i:=(ω);subst e;exact⟨hx7,λj hj hc=>Pf hx8 ⟨j,hj,hc⟩⟩)))))
       ·
        exact Jf [(1,.bool false,.none)] [1,32,33,34,49] ⟨kbC hx7 (Fx (Ty (r.homes.getD i V3.zero))),trivial⟩ (Ae 13 (Fa (.bool false) (congrArg AV.bool (Ao (by rintro⟨⟨g5,g6,g7,g8,g9⟩,g2,g3,g4⟩;first|omega|(have g:=(g2 i ω).1;rw[hx7] at g;exact Bool.noConfusion g)|(have:=(g2 i ω).2 j ω;omega))).symm)))
      ·
       refine Ae 10 (Ct (dI r.waits 3600000 ω) (Ae 1 (oT 54 (bP (Nu r.waits 3600000)) (λhx9=>?_) (λhx9=>?_))))
       ·
        exact Ae 2 (Ct (dI r.rises 1048576 ω) (Ae 5 (Fa (.bool (bP (Nu r.rises 1048576))) (congrArg AV.bool (Aan ⟨λg=>⟨⟨ω,ω,ω,ω,ω⟩,λq hq=>hFi q ω,Ew hx9,g⟩,λg=>g.2.2.2⟩)))))
       ·
        exact Ae 8 (Fa (.bool false) (congrArg AV.bool (Ao (by rintro⟨⟨g5,g6,g7,g8,g9⟩,g2,g3,g4⟩;first|omega|exact Pf hx9 g3|(have:=(g2 i ω).2 j ω;omega))).symm))
     ·
      exact Ae 8 (Fa (.bool false) (congrArg AV.bool (Ao (by rintro⟨⟨g5,g6,g7,g8,g9⟩,g2,g3,g4⟩;first|omega|(have:=(g2 i ω).2 j ω;omega))).symm))
theorem Ns (r:Rv) (hr:Ue r):AF Tryz.prog 12 [Hf r] (.bool (bP (Kd r))):=by
 have h1:=hr.n
 have h2:=hr.w
 have h3:=hr.s
 refine Cc func12 rfl λB D0 hA0=>?_
 refine Ae 13 (Lh [1,3] r.homes.length (λi=>∀q,q<i->Dy 1048576 [(r.homes.getD q V3.zero).x,(r.homes.getD q V3.zero).y,(r.homes.getD q V3.zero).z]=true/\∀j,j<q->¬((r.homes.getD j V3.zero).x=(r.homes.getD q V3.zero).x/\(r.homes.getD j V3.zero).y=(r.homes.getD q V3.zero).y/\(r.homes.getD j V3.zero).z=(r.homes.getD q V3.zero).z)) (λi=>⟨[(1,.ptr 0 0),(3,.int (i:Int))],[(0,.box 25 [Ll r.homes,.int r.flight,Dh r.waits,Dh r.rises])],1,71⟩) (λq hq=>absurd hq (Nat.not_lt_zero q)) (λi hin hFi J1 hJ1=>?_))
 refine Ae 10 (Fd 9 ((i:Int)<(r.homes.length:Int)) (λhx1 hx1d=>?_) (λhx1 hx1d=>?_))
 ·
  refine Ae 11 (Ga i r.homes.length (Ae 1 (Ct (Ty (r.homes.getD i V3.zero)) (Ae 3 (cX 18 (Dy 1048576 [(r.homes.getD i V3.zero).x,(r.homes.getD i V3.zero).y,(r.homes.getD i V3.zero).z]) (λhx2=>?_) (λhx2=>?_))))))
  ·
   refine Ae 9 (Lh [1,3,4] i (λj=>∀u,u<j->¬((r.homes.getD u V3.zero).x=(r.homes.getD i V3.zero).x/\(r.homes.getD u V3.zero).y=(r.homes.getD i V3.zero).y/\(r.homes.getD u V3.zero).z=(r.homes.getD i V3.zero).z)) (λj=>⟨[(1,.ptr 0 0),(3,.int (i:Int)),(4,.int (j:Int))],[(0,.box 25 [Ll r.homes,.int r.flight,Dh r.waits,Dh r.rises])],1,71⟩) (λq hq=>absurd hq (Nat.not_lt_zero q)) (λj hjn hFj J2 hJ2=>?_))
   refine Ae 8 (Fd 21 ((j:Int)<(i:Int)) (λhx3 hx3d=>?_) (λhx3 hx3d=>?_))
   ·
    refine Ae 6 (Jf [(3,Fi (Ll r.homes) j,.none),(8,Fi (Ll r.homes) i,.none),(10,.bool (decide ((r.homes.getD j V3.zero).x=(r.homes.getD i V3.zero).x/\(r.homes.getD j V3.zero).y=(r.homes.getD i V3.zero).y/\(r.homes.getD j V3.zero).z=(r.homes.getD i V3.zero).z)),.none)] [1,3,4,34] ⟨Ni j r.homes.length,Ni i r.homes.length,Bc (Yr 36 36 (.tmp 28) (.tmp 33) κ _ _ κ κ κ (decide ((r.homes.getD j V3.zero).x=(r.homes.getD i V3.zero).x/\(r.homes.getD j V3.zero).y=(r.homes.getD i V3.zero).y/\(r.homes.getD j V3.zero).z=(r.homes.getD i V3.zero).z)) (gW _ _ _ _ _ _)),trivial⟩ (Ae 1 (Fd 34 ((r.homes.getD j V3.zero).x=(r.homes.getD i V3.zero).x/\(r.homes.getD j V3.zero).y=(r.homes.getD i V3.zero).y/\(r.homes.getD j V3.zero).z=(r.homes.getD i V3.zero).z) (λhx4 hx4d=>?_) (λhx4 hx4d=>?_))))
    ·
     exact Ae 16 (Fa (.bool false) (congrArg AV.bool (Ao (by rintro⟨⟨g5,g6,g7,g8,g9⟩,g2,g3,g4⟩;first|omega|(have:=(g2 i ω).2 j ω;omega))).symm))
    ·
     exact Ae 6 (Ev ((j:Int)+1) ((j+1:Nat):Int) (Ae 2 (Ob [1,3,4] (hJ2 ω (λu hr=>(Nat.lt_or_ge u j).elim (λg=>hFj u g) λg=>by have e:u=j:=(ω);subst e;omega)))))
   ·
    exact Ae 9 (Ev ((i:Int)+1) ((i+1:Nat):Int) (Ae 2 (Ob [1,3] (hJ1 ω (λq hq=>(Nat.lt_or_ge q i).elim (λg=>hFi q g) λg=>by have e:q=i:=(ω);subst e;exact⟨hx2,λj2 hj=>hFj j2 ω⟩)))))
  ·
   exact Ae 13 (Fa (.bool false) (congrArg AV.bool (Ao (by rintro⟨⟨g5,g6,g7,g8,g9⟩,g2,g3,g4⟩;first|omega|(have g:=(g2 i ω).1;rw[hx2] at g;exact Bool.noConfusion g)|(have:=(g2 i ω).2 j ω;omega))).symm))
 ·
  refine Ae 13 (Fd 39 ((1:Int)<=(r.homes.length:Int)) (λhx5 hx5d=>?_) (λhx5 hx5d=>?_))
  ·
   refine Ae 6 (Fd 45 ((r.homes.length:Int)<=8) (λhx6 hx6d=>?_) (λhx6 hx6d=>?_))
   ·
    refine Ae 5 (Fd 50 ((4:Int)<=r.flight) (λhx7 hx7d=>?_) (λhx7 hx7d=>?_))
    ·
     refine Ae 5 (Fd 55 (r.flight<=3600000) (λhx8 hx8d=>?_) (λhx8 hx8d=>?_))
     ·
      refine Ae 2 (Mt (.int .i64 (Int.tmod r.flight 4)) (.int .i64 (tm4 r.flight)) ?_ rfl)
      refine Ae 3 (Fd 61 (tm4 r.flight=0) (λhx9 hx9d=>?_) (λhx9 hx9d=>?_))
      ·
       refine Ae 2 (Ct (Xf r.waits 3600000 ω) (Ae 2 (oT 66 (bP (Nu r.waits 3600000)) (λhx10=>?_) (λhx10=>?_))))
       ·
        exact Ae 2 (Ct (Xf r.rises 1048576 ω) (Ae 5 (Fa (.bool (bP (Nu r.rises 1048576))) (congrArg AV.bool (Aan ⟨λg=>⟨⟨ω,ω,ω,ω,ω⟩,λq hq=>hFi q ω,Ew hx10,g⟩,λg=>g.2.2.2⟩)))))
       ·
        exact Ae 8 (Fa (.bool false) (congrArg AV.bool (Ao (by rintro⟨⟨g5,g6,g7,g8,g9⟩,g2,g3,g4⟩;first|omega|exact Pf hx10 g3|(have:=(g2 i ω).2 j ω;omega))).symm))
      ·
       exact Ae 13 (Fa (.bool false) (congrArg AV.bool (Ao (by rintro⟨⟨g5,g6,g7,g8,g9⟩,g2,g3,g4⟩;first|omega|(have:=(g2 i ω).2 j ω;omega))).symm))
     ·
      exact Ae 19 (Fa (.bool false) (congrArg AV.bool (Ao (by rintro⟨⟨g5,g6,g7,g8,g9⟩,g2,g3,g4⟩;first|omega|(have:=(g2 i ω).2 j ω;omega))).symm))
    ·
     exact Ae 24 (Fa (.bool false) (congrArg AV.bool (Ao (by rintro⟨⟨g5,g6,g7,g8,g9⟩,g2,g3,g4⟩;first|omega|(have:=(g2 i ω).2 j ω;omega))).symm))
   ·
    exact Ae 29 (Fa (.bool false) (congrArg AV.bool (Ao (by rintro⟨⟨g5,g6,g7,g8,g9⟩,g2,g3,g4⟩;first|omega|(have:=(g2 i ω).2 j ω;omega))).symm))
  ·
   exact Ae 35 (Fa (.bool false) (congrArg AV.bool (Ao (by rintro⟨⟨g5,g6,g7,g8,g9⟩,g2,g3,g4⟩;first|omega|(have:=(g2 i ω).2 j ω;omega))).symm))
abbrev rK (v:V3):Value:= .agg #[.int .i64 v.x,.int .i64 v.y,.int .i64 v.z]
def cT (p:Pr) (r:Rv) (c:Cs) (w:Int):AV:=
 if Oa p c (La p r c w)<p.acts.length then .lit (.tuple #[.int .i64 (Bq p c+w),.int .i64 (Bq p c+w+r.flight),.int .i64 (Oa p c (La p r c w):Int),.int .i64 (Bn p.acts (Oa p c (La p r c w)+1)),rK (rE p c (Oa p c (La p r c w)))])
 else .lit (.tuple #[.int .i64 (Bq p c+w),.int .i64 (Bq p c+w+r.flight),.int .i64 (-1),.int .i64 (Bn p.acts p.acts.length),.agg #[.int .i64 0,.int .i64 0,.int .i64 0]])
theorem Abw {p:Pr} {r:Rv} {c:Cs} {w:Int} {i:Nat} (hi:i<p.acts.length) (h1:c.act.toNat+1<=i) (h3:∀q,c.act.toNat+1<=q->q<i->Bn p.acts (q+1)<La p r c w) (h4:La p r c w<=Bn p.acts (i+1)):cT p r c w= .lit (.tuple #[.int .i64 (Bq p c+w),.int .i64 (Bq p c+w+r.flight),.int .i64 (i:Int),.int .i64 (Bn p.acts (i+1)),rK (rE p c i)]):=by
 have e:=uL (p:=p) (c:=c) h1 ω h3 (.inr h4)
 rw[cT,e,if_pos hi]
theorem Adm {p:Pr} {r:Rv} {c:Cs} {w:Int} (h1:c.act.toNat+1<=p.acts.length) (h3:∀q,c.act.toNat+1<=q->q<p.acts.length->Bn p.acts (q+1)<La p r c w):cT p r c w= .lit (.tuple #[.int .i64 (Bq p c+w),.int .i64 (Bq p c+w+r.flight),.int .i64 (-1),.int .i64 (Bn p.acts p.acts.length),.agg #[.int .i64 0,.int .i64 0,.int .i64 0]]):=by
 have e:=uL (p:=p) (c:=c) h1 (Nat.le_refl _) h3 (.inl rfl)
 rw[cT,e,if_neg (Nat.lt_irrefl _)]
theorem Od (p:Pr) (r:Rv) (c:Cs) (w:Int) (hp:Ki p) (hc:Il p c) (hcs:Te c) (hr:Kd r) (hw:0<=w/\w<=3600000):AF Tryz.prog 39 [Ey p,Hf r,Kf c,.int w] (cT p r c w):=by
 have ho:=Fz hc.1
 have hv1:=hc.2.1
 have hv2:=hc.2.2.1
 have hv3:=hc.2.2.2.1
 have hv4:=hc.2.2.2.2
 have hac:=ho.acts
 have hfl:=hr.1
 have he:=ho.ends (c.act.toNat+1) ω
 have hce:Bq p c=Bn p.acts (c.act.toNat+1):=rfl
 have har:La p r c w=Bq p c+w+r.flight:=rfl
 refine Cc func39 rfl λB D0 hA0=>?_
 refine Ae 17 (Ct (oU p c hp hcs hc) (Ae 10 (Ev (Bq p c+w) (Bq p c+w) (Ae 8 (Ev (Bq p c+w+r.flight) (Bq p c+w+r.flight) (Ae 8 (Ev (Bq p c+w-w) (Bn p.acts (c.act.toNat+1)) (Ae 11 (Ev (c.act+1) ((c.act.toNat+1:Nat):Int) (Ae 4 (Lh [4,6,8,9,10,11,12,13] (p.acts.length-(c.act.toNat+1)) (λk=>∀q,c.act.toNat+1<=q->q<c.act.toNat+1+k->Bn p.acts (q+1)<La p r c w) (λk=>⟨[(4,.ptr 0 0),(6,.ptr 2 0),(8,.int (Bq p c+w)),(9,.int (Bq p c+w+r.flight)),(10,.int (-1)),(11,.int (Bn p.acts (c.act.toNat+1+k))),(12,.ptr 3 0),(13,.int ((c.act.toNat+1+k:Nat):Int))],[(0,.box 31 [Fc p.names,Hl p.homes,Gs p.acts]),(1,.box 25 [Ll r.homes,.int r.flight,Dh r.waits,Dh r.rises]),(2,.box 33 [.int c.craft,.int c.act]),(3,.box 36 [.int 0,.int 0,.int 0])],4,68⟩) (λq h1 h2=>absurd h2 ω) (λk hkn hFk J1 hJ1=>?_))))))))))))
 refine Ae 10 (Fd 37 (((c.act.toNat+1+k:Nat):Int)<(p.acts.length:Int)) (λhx1 hx1d=>?_) (λhx1 hx1d=>?_))
 ·
  refine Ae 5 ?_
  have he2:=ho.ends (c.act.toNat+1+k) ω
  have hl:=getD_in hp.lens (c.act.toNat+1+k)
  have hmv:=ho.mv (c.act.toNat+1+k) ω
  refine Ae 6 (Ga (c.act.toNat+1+k) p.acts.length (Ae 2 (Mt (.int .i64 (IntKind.wrap .i64 (Bn p.acts (c.act.toNat+1+k)+(p.acts.getD (c.act.toNat+1+k) Ac.none).len))) (.int .i64 (Bn p.acts (c.act.toNat+1+(k+1)))) ?_ (congrArg (Value.int .i64) ((IntWalk.i64_in _ (by have he3:=ho.ends ((c.act.toNat+1+k)+1) ω;rw[Bn] at he3;omega)).trans rfl)))))
  refine Ae 10 (Fd 50 (Bq p c+w+r.flight<=Bn p.acts (c.act.toNat+1+(k+1))) (λhx2 hx2d=>?_) (λhx2 hx2d=>?_))
  ·
   exact Ae 2 (Jf [(4,Fi (Gs p.acts) (c.act.toNat+1+k),.none),(9,Fi (AcP ((p.acts.getD (c.act.toNat+1+k) Ac.none).moves)) (c.craft).toNat,.none)] [8,9,10,11,12] ⟨Ni (c.act.toNat+1+k) p.acts.length,AeU c.craft (c.craft).toNat ((p.acts.getD (c.act.toNat+1+k) Ac.none).moves.length),trivial⟩ (Ae 8 (Jf [] [8,9,10,11,12] trivial (Ae 3 (Fa (.lit (.tuple #[.int .i64 (Bq p c+w),.int .i64 (Bq p c+w+r.flight),.int .i64 ((c.act.toNat+1+k:Nat):Int),.int .i64 (Bn p.acts (c.act.toNat+1+(k+1))),.agg #[.int .i64 (((p.acts.getD (c.act.toNat+1+k) Ac.none).moves.getD ((c.craft).toNat) Mv.none).to.x),.int .i64 (((p.acts.getD (c.act.toNat+1+k) Ac.none).moves.getD ((c.craft).toNat) Mv.none).to.y),.int .i64 (((p.acts.getD (c.act.toNat+1+k) Ac.none).moves.getD ((c.craft).toNat) Mv.none).to.z)]])) (Abw (i:=c.act.toNat+1+k) ω ω hFk (by first|omega|(show _<=Bn p.acts (c.act.toNat+1+(k+1));omega))).symm)))))
  ·
   exact Ae 6 (Ev (((c.act.toNat+1+k:Nat):Int)+1) ((c.act.toNat+1+k+1:Nat):Int) (Ae 2 (Ob [4,6,8,9,10,11,12,13] (hJ1 ω (λq h1 h2=>(Nat.lt_or_ge q (c.act.toNat+1+k)).elim (λg=>hFk q h1 g) λg=>by have e:q=c.act.toNat+1+k:=(ω);subst e;first|omega|(show Bn p.acts (c.act.toNat+1+(k+1))<_;omega))))))
 ·
  exact Ae 7 (Jf [] [8,9,10,11,12] trivial (Ae 3 (Fa (.lit (.tuple #[.int .i64 (Bq p c+w),.int .i64 (Bq p c+w+r.flight),.int .i64 (-1),.int .i64 (Bn p.acts (c.act.toNat+1+k)),.agg #[.int .i64 0,.int .i64 0,.int .i64 0]])) ((Adm ω (λq h1 h2=>hFk q h1 ω)).trans (congrArg (λq=>AV.lit (.tuple #[.int .i64 (Bq p c+w),.int .i64 (Bq p c+w+r.flight),.int .i64 (-1),.int .i64 (Bn p.acts q),.agg #[.int .i64 0,.int .i64 0,.int .i64 0]])) (show p.acts.length=c.act.toNat+1+k by omega))).symm)))
abbrev Th (r:Rv):AV:= .elt 4 λxi=>[Ll r.homes,.int r.flight,Dh r.waits,Dh r.rises].getD (0+xi) .top
abbrev Wk (v:V3):AV:= .elt 3 λxi=>[AV.int v.x,.int v.y,.int v.z].getD (0+xi) .top
abbrev gV (r:Rv) (v:V3):AV:= .elt 1 λxi=>[AV.fn 40 [Th r,Wk v]].getD (0+xi) .top
def Jy (a b:Int):Int:=if a<b then -1 else if b<a then 1 else 0
def orI (a b:Int):Int:=if a=0 then b else a
theorem Ab6 {d:Int} (h: -2097152<=d/\d<=2097152):0<=d*d/\d*d<=4398046511104:=by
 rcases Int.le_total 0 d with g|g
 have h1:=Int.mul_nonneg g g
 have h2:=Int.mul_le_mul h.2 h.2 g δ
 omega
 have e:d*d= -d* -d:=(Int.neg_mul_neg d d).symm
 have h1:=Int.mul_nonneg (Int.neg_nonneg.2 g) (Int.neg_nonneg.2 g)
 have h2:=Int.mul_le_mul (show -d<=2097152 by omega) (show -d<=2097152 by omega) (Int.neg_nonneg.2 g) δ
 omega
theorem Yp (r:Rv) (v:V3) (a b:Nat):decide (orI (Jy (Sn r v a) (Sn r v b)) (Jy (a:Int) (b:Int))<0)=cF r v a b:=by
 unfold orI Jy cF
 generalize Sn r v a=x
 generalize Sn r v b=y
 by_cases h1:x<y
 simp[h1]
 by_cases h2:y<x
 simp[h1,h2]
 intro h;omega
 have e:x=y:=by omega
 by_cases h3:a<b
 simp[e,h3]
 by_cases h4:b<a
 simp[e,h3,h4]
 simp[e,h3,h4]
theorem kK (a:Int):AF Tryz.prog 78 [.int a] (.bool false):=by
 refine Cc func78 rfl λB D0 hA0=>?_
 exact Ae 14 (Fa (.bool (!decide (a=a))) (congrArg AV.bool (by simp)))
theorem Za (a b:Int):AF Tryz.prog 44 [.int a,.int b] (.int (Jy a b)):=by
 refine Cc func44 rfl λB D0 hA0=>?_
 refine Ae 8 (Ct (kK a) (Ae 6 (Ct (kK b) (Ae 29 (Fd 16 (a<b) (λhx1 hx1d=>?_) (λhx1 hx1d=>?_))))))
 ·
  exact Ae 8 (Fa (.int (-1)) (congrArg AV.int (by unfold Jy;(repeat' split)<;>omega)))
 ·
  refine Ae 11 (Fd 19 (b<a) (λhx2 hx2d=>?_) (λhx2 hx2d=>?_))
  ·
   exact Ae 8 (Fa (.int 1) (congrArg AV.int (by unfold Jy;(repeat' split)<;>omega)))
  ·
   exact Ae 9 (Fa (.int 0) (congrArg AV.int (by unfold Jy;(repeat' split)<;>omega)))
theorem AeI (a b:Int):AF Tryz.prog 43 [.sl 1 2 λxi=>[AV.int a,.int b].getD xi .top] (.int (orI a b)):=by
 refine Cc func43 rfl λB D0 hA0=>?_
 refine Ae 19 (yT 2 (Ae 13 (Ga 0 2 (Ae 11 (yL 14 (a=0) (λhx1 hx1d=>?_) (λhx1 hx1d=>?_))))))
 ·
  refine Ae 5 (Mt (.int .i64 1) (.int .i64 1) (Ae 16 (Ga 1 2 (Ae 11 (yL 14 (b=0) (λhx2 hx2d=>?_) (λhx2 hx2d=>?_))))))
  ·
   exact Ae 5 (Mt (.int .i64 2) (.int .i64 2) (Ae 22 (Fa (.int 0) (congrArg AV.int (by unfold orI;split<;>omega)))))
  ·
   exact Ae 13 (Fa (.int b) (congrArg AV.int (by unfold orI;split<;>omega)))
 ·
  exact Ae 13 (Fa (.int a) (congrArg AV.int (by unfold orI;split<;>omega)))
theorem zF (r:Rv) (v:V3) (i:Nat) (hr:Kd r) (hi:i<r.homes.length) (hv:Dy 1048576 [v.x,v.y,v.z]=true):AF Tryz.prog 40 [.int (i:Int),Th r,Wk v] (.int (Sn r v i)):=by
 have hb:=in3 (hr.2.1 i hi).1
 have hw:=in3 hv
 have hn:=hr.1
 refine Cc func40 rfl λB D0 hA0=>?_
 refine Ae 6 (Jf [(3,Fi (Ll r.homes) i,.none),(8,.int ((r.homes.getD i V3.zero).x-v.x),.none),(12,Fi (Ll r.homes) i,.none),(17,.int ((r.homes.getD i V3.zero).y-v.y),.none),(21,Fi (Ll r.homes) i,.none),(26,.int ((r.homes.getD i V3.zero).z-v.z),.none)] [5] ⟨Ni i r.homes.length,Bc (Ca (v:= .int .i64 (IntKind.wrap .i64 ((r.homes.getD i V3.zero).x-v.x))) (v':= .int .i64 ((r.homes.getD i V3.zero).x-v.x)) _ κ rfl κ (λw=>by kernel_rfl) (congrArg (Value.int .i64) ((IntWalk.i64_in _ ω).trans ω))),Ni i r.homes.length,Bc (Ca (v:= .int .i64 (IntKind.wrap .i64 ((r.homes.getD i V3.zero).y-v.y))) (v':= .int .i64 ((r.homes.getD i V3.zero).y-v.y)) _ κ rfl κ (λw=>by kernel_rfl) (congrArg (Value.int .i64) ((IntWalk.i64_in _ ω).trans ω))),Ni i r.homes.length,Bc (Ca (v:= .int .i64 (IntKind.wrap .i64 ((r.homes.getD i V3.zero).z-v.z))) (v':= .int .i64 ((r.homes.getD i V3.zero).z-v.z)) _ κ rfl κ (λw=>by kernel_rfl) (congrArg (Value.int .i64) ((IntWalk.i64_in _ ω).trans ω))),trivial⟩ (Ae 1 ?_))
 have hqx:=Ab6 (d:=(r.homes.getD i V3.zero).x-v.x) ω
 have hqy:=Ab6 (d:=(r.homes.getD i V3.zero).y-v.y) ω
 have hqz:=Ab6 (d:=(r.homes.getD i V3.zero).z-v.z) ω
 exact Ae 6 (Ev (((r.homes.getD i V3.zero).x-v.x)*((r.homes.getD i V3.zero).x-v.x)) (((r.homes.getD i V3.zero).x-v.x)*((r.homes.getD i V3.zero).x-v.x)) (Ae 4 (Ev (((r.homes.getD i V3.zero).y-v.y)*((r.homes.getD i V3.zero).y-v.y)) (((r.homes.getD i V3.zero).y-v.y)*((r.homes.getD i V3.zero).y-v.y)) (Ev (((r.homes.getD i V3.zero).x-v.x)*((r.homes.getD i V3.zero).x-v.x)+((r.homes.getD i V3.zero).y-v.y)*((r.homes.getD i V3.zero).y-v.y)) (((r.homes.getD i V3.zero).x-v.x)*((r.homes.getD i V3.zero).x-v.x)+((r.homes.getD i V3.zero).y-v.y)*((r.homes.getD i V3.zero).y-v.y)) (Ae 4 (Ev (((r.homes.getD i V3.zero).z-v.z)*((r.homes.getD i V3.zero).z-v.z)) (((r.homes.getD i V3.zero).z-v.z)*((r.homes.getD i V3.zero).z-v.z)) (Ev (((r.homes.getD i V3.zero).x-v.x)*((r.homes.getD i V3.zero).x-v.x)+((r.homes.getD i V3.zero).y-v.y)*((r.homes.getD i V3.zero).y-v.y)+((r.homes.getD i V3.zero).z-v.z)*((r.homes.getD i V3.zero).z-v.z)) (((r.homes.getD i V3.zero).x-v.x)*((r.homes.getD i V3.zero).x-v.x)+((r.homes.getD i V3.zero).y-v.y)*((r.homes.getD i V3.zero).y-v.y)+((r.homes.getD i V3.zero).z-v.z)*((r.homes.getD i V3.zero).z-v.z)) (Ae 4 (Gc)))))))))
theorem rU (r:Rv) (v:V3) (a b:Nat) (hr:Kd r) (ha:a<r.homes.length) (hb:b<r.homes.length) (hv:Dy 1048576 [v.x,v.y,v.z]=true):AF Tryz.prog 42 [.int (a:Int),.int (b:Int),gV r v] (.int (orI (Jy (Sn r v a) (Sn r v b)) (Jy (a:Int) (b:Int)))):=by
 refine Cc func42 rfl λB D0 hA0=>?_
 exact Ae 6 (Jf [(2,_,.none),(5,_,.none),(6,_,.none),(9,_,.none),(10,.osl 0 1 2,(.new 0 (.vec 3 1 2 (λxi=>[.int (Jy (Sn r v a) (Sn r v b)),.int (Jy (a:Int) (b:Int))].getD xi .top)))),(11,.int (orI (Jy (Sn r v a) (Sn r v b)) (Jy (a:Int) (b:Int))),(.read 0))] [5] ⟨Ac3 (zF r v a hr ha hv),Ac3 (zF r v b hr hb hv),Fx (Za (Sn r v a) (Sn r v b)),Fx (Za (a:Int) (b:Int)),Bc (Aj 23 2 #[(0,(.tmp 12)),(1,(.tmp 15))] κ underlying23 1 sizeOf3 _ zeroValue3 κ β β β 0 [.int (Jy (Sn r v a) (Sn r v b)),.int (Jy (a:Int) (b:Int))] κ (λxi=>[.int (Jy (Sn r v a) (Sn r v b)),.int (Jy (a:Int) (b:Int))].getD xi .top) κ),Bc (eQ 43 #[.tmp 16] #[23] κ (λ_ _=>by kernel_rfl) 0 (.vec 3 1 2 (λxi=>[.int (Jy (Sn r v a) (Sn r v b)),.int (Jy (a:Int) (b:Int))].getD xi .top)) κ (λ_ _ _ _ h=>by cases h;exact(λi hi j hj=>by obtain rfl:j=0:=(ω);exact match i,hi with|0,_=>rfl|1,_=>rfl|i+2,h=>absurd h ω)) [.osl 0 1 2] κ [.sl 1 2 (λxi=>[.int (Jy (Sn r v a) (Sn r v b)),.int (Jy (a:Int) (b:Int))].getD xi .top)] κ (.int .i64 (orI (Jy (Sn r v a) (Sn r v b)) (Jy (a:Int) (b:Int)))) (AeI (Jy (Sn r v a) (Sn r v b)) (Jy (a:Int) (b:Int)))),trivial⟩ (Ae 2 (Gc)))
theorem Jh (v:V3) (z:Int) (hv:Dy 1048576 [v.x,v.y,v.z]=true) (hz:0<=z/\z<=1048576):AF Tryz.prog 45 [Hc v,.int z] (.bool (Jz v z)):=by
 have hb:=in3 hv
 refine Cc func45 rfl λB D0 hA0=>?_
 exact Ae 11 (Ev (v.z+z) (v.z+z) (Ae 7 (Ct (Ty ⟨v.x,v.y,v.z+z⟩) (Ae 4 (Gc)))))
theorem eG {lt:Nat->Nat->Bool} {l:List Nat} {j:Nat} (h0:0<j) (h:lt (l.getD j 0) (l.getD (j-1) 0)=true):Us lt l j=Us lt (Ou l (j-1)) (j-1):=by
 obtain⟨j',rfl⟩:∃j',j=j'+1:=⟨j-1,ω⟩
 rw[Us]
 simp only[Nat.add_sub_cancel] at h ⊢
 rw[if_pos h]
theorem eH {lt:Nat->Nat->Bool} {l:List Nat} {j:Nat} (h0:0<j) (h:lt (l.getD j 0) (l.getD (j-1) 0)=false):Us lt l j=l:=by
 obtain⟨j',rfl⟩:∃j',j=j'+1:=⟨j-1,ω⟩
 rw[Us]
 simp only[Nat.add_sub_cancel] at h ⊢
 rw[if_neg (by rw[h];exact Bool.false_ne_true)]
theorem eI {lt:Nat->Nat->Bool} {l:List Nat} {j:Nat} (h0:¬0<j):Us lt l j=l:=by
 obtain rfl:j=0:=by omega
 rfl
theorem uG (L:List Nat) (j x:Nat) (h0:0<j) (h:j<L.length):(if x=j-1 then AV.int ((L.getD j 0:Nat):Int) else if x=j then AV.int ((L.getD (j-1) 0:Nat):Int) else AV.int ((L.getD x 0:Nat):Int))=AV.int (((Ou L (j-1)).getD x 0:Nat):Int):=by
 rw[bK _ _ _ ω,show j-1+1=j by omega]
 by_cases e1:x=j-1
 rw[if_pos e1,if_pos e1]
 rw[if_neg e1,if_neg e1]
 by_cases e2:x=j
 rw[if_pos e2,if_pos e2]
 rw[if_neg e2,if_neg e2]
theorem fB {L:List Nat} {j n:Nat} (h:j+1<L.length) (hm:∀x,x<L.length->L.getD x 0<n):∀x,x<L.length->(Ou L j).getD x 0<n:=λx hx=>by
 rw[bK _ _ _ h]
 split
 exact hm _ h
 split
 exact hm _ ω
 exact hm x hx
theorem tX {p:Pr} {r:Rv} {c:Cs} {k:Nat} (hc:Il p c) (h:jJ p r c k=true):Dy 1048576 [(Bj p r c k).x,(Bj p r c k).y,(Bj p r c k).z]=true:=by
 have:=(Fz hc.1).to (j:=Oa p c (La p r c (r.waits.getD k 0))) (i:=c.craft.toNat) (of_decide_eq_true h) (by have:=hc.2.1;have:=hc.2.2.1;omega)
 exact this
theorem Sq {p:Pr} {r:Rv} {c:Cs} {k:Nat} (hp:Ki p) (hc:Il p c) (hcs:Te c) (hr:Kd r) (hk:k<r.waits.length) (h:jJ p r c k=true):AF Tryz.prog 39 [Ey p,Hf r,Kf c,.int (r.waits.getD k 0)] (.lit (.tuple #[.int .i64 (Bq p c+r.waits.getD k 0),.int .i64 (Bq p c+r.waits.getD k 0+r.flight),.int .i64 (Oa p c (La p r c (r.waits.getD k 0)):Int),.int .i64 (Bn p.acts (Oa p c (La p r c (r.waits.getD k 0))+1)),rK (Bj p r c k)])):=by
 have hw:=hr.2.2.1.2.2 k hk
 have:=Od p r c (r.waits.getD k 0) hp hc hcs hr ⟨hw.1,hw.2.1⟩
 unfold cT at this
 rwa [if_pos (of_decide_eq_true h)] at this
theorem Ua {p:Pr} {r:Rv} {c:Cs} {k:Nat} (hp:Ki p) (hc:Il p c) (hcs:Te c) (hr:Kd r) (hk:k<r.waits.length) (h:jJ p r c k=false):AF Tryz.prog 39 [Ey p,Hf r,Kf c,.int (r.waits.getD k 0)] (.lit (.tuple #[.int .i64 (Bq p c+r.waits.getD k 0),.int .i64 (Bq p c+r.waits.getD k 0+r.flight),.int .i64 (-1),.int .i64 (Bn p.acts p.acts.length),.agg #[.int .i64 0,.int .i64 0,.int .i64 0]])):=by
 have hw:=hr.2.2.1.2.2 k hk
 have:=Od p r c (r.waits.getD k 0) hp hc hcs hr ⟨hw.1,hw.2.1⟩
 unfold cT at this
 rwa [if_neg (of_decide_eq_false h)] at this
theorem Sh {l r:List Rl} (i:Nat):(l++r).getD i Rl.none=if i<l.length then l.getD i Rl.none else r.getD (i-l.length) Rl.none:=by
 simp only[List.getD_eq_getElem?_getD,List.getElem?_append]
 split<;>rfl
def tZ (l:List Rl):AV:=if l.length=0 then .lit (.tuple #[.slice none 0 0,.int .i64 0]) else .tup [Abu l,.int 0]
def Ss (p:Pr) (r:Rv) (c:Cs):Prop:=Il p c/\Kd r
theorem zM (n:Nat) (h:n<=1000000):AF Tryz.prog 77 [.lit (.int .u64 (n:Int))] (.int (Lib.bitLen n:Int)):=Ja (vs:=[_]) λw=>by
 have:=Tryz.bits_Len (n:Int) w ω ω
 refine this.mono ?_
 rintro e w' ⟨rfl,rfl⟩
 exact⟨by simp,Below.refl _ _⟩
theorem fR (p:Pr) (r:Rv) (c:Cs) (hp:Ki p) (hr:Ue r) (hcs:Te c):AF Tryz.prog 37 [Ey p,Hf r,Kf c] (.bool (bP (Ss p r c))):=by
 refine Cc func37 rfl λB D0 hA0=>?_
 refine Ae 12 (Ct (Ub p c hp hcs) (Ae 1 (oT 10 (bP (Il p c)) (λhx1=>?_) (λhx1=>?_))))
 ·
  exact Ae 1 (Ct (Ko r hr) (Ae 5 (Fa (.bool (bP (Kd r))) (congrArg AV.bool (Aan ⟨λg=>⟨Ew hx1,g⟩,λg=>g.2⟩)))))
 ·
  exact Ae 7 (Fa (.bool false) (congrArg AV.bool (Ao λg=>Pf hx1 g.1).symm))
theorem fA (r:Rv) (v:V3) {i:Nat} (h:i<r.homes.length):∀x,x<r.homes.length->(Lt (cF r v) (List.range r.homes.length) i).getD x 0<r.homes.length:=λx hx=>by
 have:=bI (cF r v) (n:=r.homes.length) (List.range r.homes.length) (λx hx=>by
  rw[List.length_range] at hx
  rw[Vo hx];exact hx) i (by rw[List.length_range];exact h) x (by rw[List.length_range];exact hx)
 exact this
theorem kQ (p:Pr) (r:Rv) (c:Cs) (hp:Ki p) (hr:Ue r) (hcs:Te c) (hg:Ss p r c):AF Tryz.prog 18 [Ey p,Hf r,Kf c] (tZ (Om p r c)):=by
 have hi1:=hr.n
 have hn1:=hg.2.1.1
 have hn2:=hg.2.1.2.1
 have hw1:=hg.2.2.2.1.1
 have hw2:=hg.2.2.2.1.2.1
 have hs1:=hg.2.2.2.2.1
 have hs2:=hg.2.2.2.2.2.1
 refine Cc func18 rfl λB D0 hA0=>?_
 refine Ae 15 (Ct (fR p r c hp hr hcs) (Ae 3 (Ic 27 (!bP (Ss p r c)) false (by rw[(Dm hg)];rfl) (Ae 3 (cW 0 (cW 1 (cW 2 (Ae 15 (fG [3,4,5,8,29,30,31] (λm s=>∃k n,k<=r.waits.length/\m=r.waits.length-k/\(n=(Jc p r c k).length/\n<=k*128)/\(((n=0)/\s=⟨[(3,.elt 3 (λxi=>[Fc p.names,Hl p.homes,Gs p.acts].getD (0+xi) .top)),(4,Th r),(5,.elt 2 (λxi=>[.int c.craft,.int c.act].getD (0+xi) .top)),(8,.lit (.slice none 0 0)),(29,Dh r.waits),(30,.int (r.waits.length:Int)),(31,.int (k:Int))],[],3,99⟩)\/((0<n)/\s=⟨[(3,.elt 3 (λxi=>[Fc p.names,Hl p.homes,Gs p.acts].getD (0+xi) .top)),(4,Th r),(5,.elt 2 (λxi=>[.int c.craft,.int c.act].getD (0+xi) .top)),(8,.osl 50 3 n),(29,Dh r.waits),(30,.int (r.waits.length:Int)),(31,.int (k:Int))],[(50,.vec 52 3 n (λxi=>Cq ((Jc p r c k).getD xi Rl.none)))],51,99⟩))) r.waits.length ⟨0,0,Nat.zero_le _,rfl,⟨rfl,Nat.zero_le _⟩,(.inl ⟨rfl,κ⟩)⟩ ?_)))))))))
 rintro _ _ ⟨k,n,hkn,rfl,hFk,(⟨hk0,rfl⟩|⟨hk0,rfl⟩)⟩ J1 hJ1
 ·
  refine Ae 6 (Fd 32 ((k:Int)<(r.waits.length:Int)) (λhx1 hx1d=>?_) (λhx1 hx1d=>?_))
  ·
   refine Ae 7 (Ga k r.waits.length (Ae 10 ?_))
   refine Gn (jJ p r c k) (λhx2=>?_) (λhx2=>?_)
   ·
    refine Ct (Sq hp hg.1 hcs hg.2 ω hx2) (Ae 19 (Ic 47 (decide ((((Oa p c (La p r c (r.waits.getD k 0))):Nat):Int)<0)) false (decide_eq_false ω) (Ae 5 ?_)))
    have hV:=tX hg.1 hx2
    refine cW 3 (Ae 7 (cW 4 (Ae 15 (fG [3,4,5,8,10,15,16,17,29,30,31,51,52] (λm s=>∃a,a<=r.homes.length/\m=r.homes.length-a/\True/\((a=0/\s=⟨[(3,.elt 3 (λxi=>[Fc p.names,Hl p.homes,Gs p.acts].getD (0+xi) .top)),(4,Th r),(5,.elt 2 (λxi=>[.int c.craft,.int c.act].getD (0+xi) .top)),(8,.lit (.slice none 0 0)),(10,.int ((r.waits).getD k 0)),(15,Wk (Bj p r c k)),(16,gV r (Bj p r c k)),(17,.lit (.slice none 0 0)),(29,Dh r.waits),(30,.int (r.waits.length:Int)),(31,.int (k:Int)),(51,.int (r.homes.length:Int)),(52,.int ((0:Nat):Int))],[],5,99⟩)\/(0<a/\s=⟨[(3,.elt 3 (λxi=>[Fc p.names,Hl p.homes,Gs p.acts].getD (0+xi) .top)),(4,Th r),(5,.elt 2 (λxi=>[.int c.craft,.int c.act].getD (0+xi) .top)),(8,.lit (.slice none 0 0)),(10,.int ((r.waits).getD k 0)),(15,Wk (Bj p r c k)),(16,gV r (Bj p r c k)),(17,.osl 60 1 a),(29,Dh r.waits),(30,.int (r.waits.length:Int)),(31,.int (k:Int)),(51,.int (r.homes.length:Int)),(52,.int (a:Int))],[(60,.vec 3 1 a (λxi=>AV.int (xi:Int)))],61,99⟩))) r.homes.length ⟨0,Nat.zero_le _,rfl,trivial,.inl ⟨rfl,κ⟩⟩ ?_))))
    rintro _ _ ⟨a,han,rfl,hFa,(⟨ha0,rfl⟩|⟨ha0,rfl⟩)⟩ J2 hJ2
    ·
     subst ha0
     refine Ae 6 (Fd 53 (((0:Nat):Int)<(r.homes.length:Int)) (λhx3 hx3d=>?_) (λhx3 hx3d=>?_))
     ·
      exact Ae 14 (Cb (.osl 5 1 1) (.new 5 (.vec 3 1 1 (λ_=> .int ((0:Nat):Int)))) (Aj 23 1 #[(0,(.tmp 56))] κ underlying23 1 sizeOf3 _ zeroValue3 κ β β β 5 [.int ((0:Nat):Int)] κ (λ_=> .int ((0:Nat):Int)) κ) (Cb (.osl 6 1 1) (.newr 5 6 (.vec 3 1 1 (λxi=>AV.int (xi:Int)))) (Cf (.tmp 55) (.tmp 57) 23 κ underlying23 1 8 (.int .i64 0) κ κ δ 1 ω (λ_=> .int ((0:Nat):Int)) (λxi=>AV.int (xi:Int)) 6 (λi hi=>by(obtain rfl:i=0:=(ω));rfl) (λi hi j hj=>by obtain rfl:j=0:=(ω);rfl) (by unfold maxLen;omega) ω κ 5 3 κ κ) (Ae 5 (Ev (((0:Nat):Int)+1) ((0+1:Nat):Int) (Ae 2 (Gk [3,4,5,8,10,15,16,17,29,30,31,51,52] [(6,60)] 61 0 hA0 [(3,1,1,(λ_=> .int ((0:Nat):Int))),(3,1,1,(λxi=>AV.int (xi:Int)))] ⟨(Gp λ_ _=>rfl),(Gp λ_ _=>rfl),trivial⟩ (hJ2 _ _ (by omega:r.homes.length-(0+1)<r.homes.length-0) ⟨0+1,ω,rfl,trivial,.inr ⟨Nat.succ_pos _,rfl⟩⟩)))))))
     ·
      refine Ae 6 ?_
      exfalso;omega
    ·
     refine Ae 6 (Fd 53 ((a:Int)<(r.homes.length:Int)) (λhx4 hx4d=>?_) (λhx4 hx4d=>?_))
     ·
      exact Ae 14 (Cb (.osl 61 1 1) (.new 61 (.vec 3 1 1 (λ_=> .int (a:Int)))) (Aj 23 1 #[(0,(.tmp 56))] κ underlying23 1 sizeOf3 _ zeroValue3 κ β β β 61 [.int (a:Int)] κ (λ_=> .int (a:Int)) κ) (Cb (.osl 62 1 (a+1)) (.grow2 60 61 62 (.vec 3 1 (a+1) (λxi=>AV.int (xi:Int)))) (Cu (.tmp 55) (.tmp 57) 23 κ underlying23 1 8 (.int .i64 0) κ κ δ a 1 ω (λxi=>AV.int (xi:Int)) (λ_=> .int (a:Int)) (λxi=>AV.int (xi:Int)) 62 ω (by unfold maxLen;omega) (λi hi=>rfl) (λi hi=>by(obtain rfl:i=0:=(ω));rfl) (λi hi j hj=>by obtain rfl:j=0:=(ω);rfl) 60 κ κ 61 3 κ κ) (Ae 5 (Ev ((a:Int)+1) ((a+1:Nat):Int) (Ae 2 (Gk [3,4,5,8,10,15,16,17,29,30,31,51,52] [(62,60)] 61 0 hA0 [(3,1,1,(λ_=> .int (a:Int))),(3,1,a+1,(λxi=>AV.int (xi:Int)))] ⟨(Gp λ_ _=>rfl),(Gp λ_ _=>rfl),trivial⟩ (hJ2 _ _ (by omega:r.homes.length-(a+1)<r.homes.length-a) ⟨a+1,ω,rfl,trivial,.inr ⟨Nat.succ_pos _,rfl⟩⟩)))))))
     ·
      refine Ae 6 ?_
      have hae:a=r.homes.length:=by omega
      subst hae
      refine Ae 4 (Yf 61 func41 (λ_ hD5=>?_))
      refine Ae 11 (Mt (.int .u64 (IntKind.wrap .u64 (r.homes.length:Int))) (.int .u64 (r.homes.length:Int)) ?_ (congrArg (Value.int .u64) (IntWalk.u64_in _ ω)))
      refine Ct (zM _ ω) (Ae 1 (Yf 61 func76 (λ_ hD6=>?_)))
      refine Ae 11 (yT 1 (Ae 5 (Ev ((r.homes.length:Int)-0) ((r.homes.length-0:Nat):Int) (Ae 8 (Ic 25 (decide (((r.homes.length-0:Nat):Int)<=12)) true (decide_eq_true ω) (Ae 9 (Yf 61 func104 (λ_ hD7=>?_))))))))
      refine Ae 3 (Mt (.int .i64 1) (.int .i64 1) (Ae 4 (Vz 60 3 1 r.homes.length (λxi=>AV.int (xi:Int)) (λxi=>AV.int (((Lt (cF r (Bj p r c k)) (List.range r.homes.length) 0).getD xi 0:Nat):Int)) (λx9 hx9=>by show AV.int _=AV.int _;rw[Lt,Vo hx9]) (Lh [0,1,2,3,8] (r.homes.length-1) (λi=>True) (λi=>⟨[(0,.osl 60 1 r.homes.length),(1,.int 0),(2,.int (r.homes.length:Int)),(3,.fn 42 [gV r (Bj p r c k)]),(8,.int ((i+1:Nat):Int))],[(60,.vec 3 1 r.homes.length (λxi=>AV.int (((Lt (cF r (Bj p r c k)) (List.range r.homes.length) i).getD xi 0:Nat):Int)))],61,53⟩) trivial (λi hin hFi J3 hJ3=>?_)))))
      refine Ae 8 (Fd 14 (((i+1:Nat):Int)<(r.homes.length:Int)) (λhx8 hx8d=>?_) (λhx8 hx8d=>?_))
      ·
       refine Ae 12 (fG [0,1,2,3,8,9] (λm s=>∃j L,m=j+1/\(Us (cF r (Bj p r c k)) L j=Lt (cF r (Bj p r c k)) (List.range r.homes.length) (i+1)/\j<=i+1/\L.length=r.homes.length/\(∀x,x<r.homes.length->L.getD x 0<r.homes.length))/\s=⟨[(0,.osl 60 1 r.homes.length),(1,.int 0),(2,.int (r.homes.length:Int)),(3,.fn 42 [gV r (Bj p r c k)]),(8,.int ((i+1:Nat):Int)),(9,.int (j:Int))],[(60,.vec 3 1 r.homes.length (λxi=>AV.int (((L).getD xi 0:Nat):Int)))],61,53⟩) ((i+1)+1) ⟨i+1,(Lt (cF r (Bj p r c k)) (List.range r.homes.length) i),rfl,⟨rfl,Nat.le_refl _,by rw[Oq,List.length_range],fA r (Bj p r c k) ω⟩,κ⟩ ?_)
       rintro _ _ ⟨j,L,rfl,hF,rfl⟩ J4 hJ4
       obtain⟨hF1,hF2,hF3,hF4⟩:=hF
       refine Ae 2 (uP ((0:Int)<(j:Int)) (λhx9 hx9d=>?_) (λhx9 hx9d=>?_))
       ·
        refine Jf [(2,.bool true,.none),(7,Fi (.osl 60 1 r.homes.length) j,.none),(8,.int (((L).getD j 0:Nat):Int),(.read 60)),(11,.int ((j-1:Nat):Int),.none),(12,Fi (.osl 60 1 r.homes.length) (j-1),.none),(13,.int (((L).getD (j-1) 0:Nat):Int),(.read 60)),(14,_,.none)] [0,1,2,3,8,9,34] ⟨jX hx9,Ni j r.homes.length,Bc (Dd 3 (.tmp 25) κ isAgg3 60 j 0 1 κ 3 r.homes.length (λxi=>AV.int (((L).getD xi 0:Nat):Int)) κ ω δ),Bc (Ca (v:= .int .i64 (IntKind.wrap .i64 ((j:Int)-1))) (v':= .int .i64 ((j-1:Nat):Int)) _ κ rfl κ (λw=>by kernel_rfl) (congrArg (Value.int .i64) ((IntWalk.i64_in _ ω).trans ω))),Ni (j-1) r.homes.length,Bc (Dd 3 (.tmp 30) κ isAgg3 60 (j-1) 0 1 κ 3 r.homes.length (λxi=>AV.int (((L).getD xi 0:Nat):Int)) κ ω δ),Ac3 (rU r (Bj p r c k) (L.getD j 0) (L.getD (j-1) 0) hg.2 (hF4 j ω) (hF4 (j-1) ω) hV),trivial⟩ (Ae 1 (Fd 34 (orI (Jy (Sn r (Bj p r c k) (L.getD j 0)) (Sn r (Bj p r c k) (L.getD (j-1) 0))) (Jy ((L.getD j 0:Nat):Int) ((L.getD (j-1) 0:Nat):Int))<0) (λhx10 hx10d=>?_) (λhx10 hx10d=>?_)))
        ·
         exact Ae 5 (Jf [(4,.int ((j-1:Nat):Int),.none),(7,.int ((j-1:Nat):Int),.none),(8,Fi (.osl 60 1 r.homes.length) (j-1),.none),(9,.int (((L).getD (j-1) 0:Nat):Int),(.read 60)),(12,Fi (.osl 60 1 r.homes.length) j,.none),(13,.int (((L).getD j 0:Nat):Int),(.read 60)),(14,Fi (.osl 60 1 r.homes.length) j,.none),(15,.lit Go.undef,(.set 60 (.vec 3 1 r.homes.length (λxi=>if xi=j then .int (((L).getD (j-1) 0:Nat):Int) else (λxi=>AV.int (((L).getD xi 0:Nat):Int)) xi)))),(16,Fi (.osl 60 1 r.homes.length) (j-1),.none),(17,.lit Go.undef,(.set 60 (.vec 3 1 r.homes.length (λxi=>if xi=j-1 then .int (((L).getD j 0:Nat):Int) else (λxi=>if xi=j then .int (((L).getD (j-1) 0:Nat):Int) else (λxi=>AV.int (((L).getD xi 0:Nat):Int)) xi) xi))))] [0,1,2,3,8,9] ⟨Bc (Ca (v:= .int .i64 (IntKind.wrap .i64 ((j:Int)-1))) (v':= .int .i64 ((j-1:Nat):Int)) _ κ rfl κ (λw=>by kernel_rfl) (congrArg (Value.int .i64) ((IntWalk.i64_in _ ω).trans ω))),Bc (Ca (v:= .int .i64 (IntKind.wrap .i64 ((j:Int)-1))) (v':= .int .i64 ((j-1:Nat):Int)) _ κ rfl κ (λw=>by kernel_rfl) (congrArg (Value.int .i64) ((IntWalk.i64_in _ ω).trans ω))),Ni (j-1) r.homes.length,Bc (Dd 3 (.tmp 45) κ isAgg3 60 (j-1) 0 1 κ 3 r.homes.length (λxi=>AV.int (((L).getD xi 0:Nat):Int)) κ ω δ),Ni j r.homes.length,Bc (Dd 3 (.tmp 49) κ isAgg3 60 j 0 1 κ 3 r.homes.length (λxi=>AV.int (((L).getD xi 0:Nat):Int)) κ ω δ),Ni j r.homes.length,Bc (Fq 3 (.tmp 51) (.tmp 46) κ 1 sizeOf3 60 j κ 3 r.homes.length (λxi=>AV.int (((L).getD xi 0:Nat):Int)) κ ω κ κ κ (.int (((L).getD (j-1) 0:Nat):Int)) κ),Ni (j-1) r.homes.length,Bc (Fq 3 (.tmp 52) (.tmp 50) κ 1 sizeOf3 60 (j-1) κ 3 r.homes.length (λxi=>if xi=j then .int (((L).getD (j-1) 0:Nat):Int) else (λxi=>AV.int (((L).getD xi 0:Nat):Int)) xi) κ ω κ κ κ (.int (((L).getD j 0:Nat):Int)) κ),trivial⟩ (Ae 2 (Vz 60 3 1 r.homes.length (λxi=>if xi=j-1 then .int (((L).getD j 0:Nat):Int) else (λxi=>if xi=j then .int (((L).getD (j-1) 0:Nat):Int) else (λxi=>AV.int (((L).getD xi 0:Nat):Int)) xi) xi) (λxi=>AV.int (((Ou L (j-1)).getD xi 0:Nat):Int)) (λx9 hx9=>uG L j x9 ω ω) (Ae 2 (Ev ((j:Int)-1) ((j-1:Nat):Int) (Ae 2 (Ob [0,1,2,3,8,9] (hJ4 _ _ (by omega:(j-1)+1<j+1) ⟨j-1,Ou L (j-1),rfl,⟨(eG ω ((Yp r (Bj p r c k) (L.getD j 0) (L.getD (j-1) 0)).symm.trans hx10)).symm.trans hF1,ω,by rw[Mf];exact hF3,by rw[<-hF3];exact fB ω (by rw[hF3];exact hF4)⟩,rfl⟩))))))))
        ·
         refine Ae 7 ?_
         have hL:L=Lt (cF r (Bj p r c k)) (List.range r.homes.length) (i+1):=(eH ω ((Yp r (Bj p r c k) (L.getD j 0) (L.getD (j-1) 0)).symm.trans hx10)).symm.trans hF1
         subst hL
         exact Ae 2 (Ev (((i+1:Nat):Int)+1) ((i+1+1:Nat):Int) (Ae 2 (Ob [0,1,2,3,8] (hJ3 ω trivial))))
       ·
        refine Jf [(2,.bool false,.none)] [0,1,2,3,8,9,34] ⟨jX hx9,trivial⟩ (Ae 8 ?_)
        have hL:L=Lt (cF r (Bj p r c k)) (List.range r.homes.length) (i+1):=(eI ω).symm.trans hF1
        subst hL
        exact Ae 2 (Ev (((i+1:Nat):Int)+1) ((i+1+1:Nat):Int) (Ae 2 (Ob [0,1,2,3,8] (hJ3 ω trivial))))
      ·
       refine Ae 5 (rM (Ae 7 (rM (Ae 1 (rM (Ae 2 ?_))))))
       have hie:i=r.homes.length-1:=by omega
       subst hie
       refine Vz 60 3 1 r.homes.length (λxi=>AV.int (((Lt (cF r (Bj p r c k)) (List.range r.homes.length) (r.homes.length-1)).getD xi 0:Nat):Int)) (λxi=>AV.int (((Eb r (Bj p r c k)).getD xi 0:Nat):Int)) (λx9 hx9=>rfl) (Yc 60 [17] 3 1 r.homes.length (λxi=>AV.int (((Eb r (Bj p r c k)).getD xi 0:Nat):Int)) (Gp λ_ _=>rfl) (Ae 8 (fG [3,4,5,8,10,15,29,30,31,63,64,65] (λm s=>∃y n2,y<=r.homes.length/\m=r.homes.length-y/\(n2=(Ol p r c k y).length/\n2<=k*128+y*16)/\(((n2=0)/\s=⟨[(3,.elt 3 (λxi=>[Fc p.names,Hl p.homes,Gs p.acts].getD (0+xi) .top)),(4,Th r),(5,.elt 2 (λxi=>[.int c.craft,.int c.act].getD (0+xi) .top)),(8,.lit (.slice none 0 0)),(10,.int ((r.waits).getD k 0)),(15,Wk (Bj p r c k)),(29,Dh r.waits),(30,.int (r.waits.length:Int)),(31,.int (k:Int)),(63,.sl 1 r.homes.length (λxi=>AV.int (((Eb r (Bj p r c k)).getD xi 0:Nat):Int))),(64,.int (r.homes.length:Int)),(65,.int (y:Int))],[],61,99⟩)\/((0<n2)/\s=⟨[(3,.elt 3 (λxi=>[Fc p.names,Hl p.homes,Gs p.acts].getD (0+xi) .top)),(4,Th r),(5,.elt 2 (λxi=>[.int c.craft,.int c.act].getD (0+xi) .top)),(8,.osl 50 3 n2),(10,.int ((r.waits).getD k 0)),(15,Wk (Bj p r c k)),(29,Dh r.waits),(30,.int (r.waits.length:Int)),(31,.int (k:Int)),(63,.sl 1 r.homes.length (λxi=>AV.int (((Eb r (Bj p r c k)).getD xi 0:Nat):Int))),(64,.int (r.homes.length:Int)),(65,.int (y:Int))],[(50,.vec 52 3 n2 (λxi=>Cq ((Ol p r c k y).getD xi Rl.none)))],61,99⟩))) r.homes.length ⟨0,n,Nat.zero_le _,rfl,⟨by rw[qR];omega,ω⟩,(.inl ⟨hk0,κ⟩)⟩ ?_)))
       rintro _ _ ⟨y,n2,hyn,rfl,hFy,(⟨hy0,rfl⟩|⟨hy0,rfl⟩)⟩ J5 hJ5
       ·
        refine Ae 6 (Fd 66 ((y:Int)<(r.homes.length:Int)) (λhx11 hx11d=>?_) (λhx11 hx11d=>?_))
        ·
         refine Ae 7 (Ga y r.homes.length (Ae 4 ?_))
         have hom:=Vh r (Bj p r c k) (x:=y) ω
         refine Ae 9 (fG [3,4,5,8,10,15,20,29,30,31,63,64,65,70,71,72] (λm s=>∃u n3,u<=r.rises.length/\m=r.rises.length-u/\(n3=(Eu p r c k y u).length/\n3<=k*128+y*16+u)/\(((n3=0)/\s=⟨[(3,.elt 3 (λxi=>[Fc p.names,Hl p.homes,Gs p.acts].getD (0+xi) .top)),(4,Th r),(5,.elt 2 (λxi=>[.int c.craft,.int c.act].getD (0+xi) .top)),(8,.lit (.slice none 0 0)),(10,.int ((r.waits).getD k 0)),(15,Wk (Bj p r c k)),(20,.int (((Eb r (Bj p r c k)).getD y 0:Nat):Int)),(29,Dh r.waits),(30,.int (r.waits.length:Int)),(31,.int (k:Int)),(63,.sl 1 r.homes.length (λxi=>AV.int (((Eb r (Bj p r c k)).getD xi 0:Nat):Int))),(64,.int (r.homes.length:Int)),(65,.int (y:Int)),(70,Dh r.rises),(71,.int (r.rises.length:Int)),(72,.int (u:Int))],[],61,99⟩)\/((0<n3)/\s=⟨[(3,.elt 3 (λxi=>[Fc p.names,Hl p.homes,Gs p.acts].getD (0+xi) .top)),(4,Th r),(5,.elt 2 (λxi=>[.int c.craft,.int c.act].getD (0+xi) .top)),(8,.osl 50 3 n3),(10,.int ((r.waits).getD k 0)),(15,Wk (Bj p r c k)),(20,.int (((Eb r (Bj p r c k)).getD y 0:Nat):Int)),(29,Dh r.waits),(30,.int (r.waits.length:Int)),(31,.int (k:Int)),(63,.sl 1 r.homes.length (λxi=>AV.int (((Eb r (Bj p r c k)).getD xi 0:Nat):Int))),(64,.int (r.homes.length:Int)),(65,.int (y:Int)),(70,Dh r.rises),(71,.int (r.rises.length:Int)),(72,.int (u:Int))],[(50,.vec 52 3 n3 (λxi=>Cq ((Eu p r c k y u).getD xi Rl.none)))],61,99⟩))) r.rises.length ⟨0,n2,Nat.zero_le _,rfl,⟨by rw[bC];omega,ω⟩,(.inl ⟨hy0,κ⟩)⟩ ?_)
         rintro _ _ ⟨u,n3,hun,rfl,hFu,(⟨hu0,rfl⟩|⟨hu0,rfl⟩)⟩ J6 hJ6
         ·
          refine Ae 6 (Fd 73 ((u:Int)<(r.rises.length:Int)) (λhx12 hx12d=>?_) (λhx12 hx12d=>?_))
          ·
           refine Ae 5 ?_
           have hris:=hg.2.2.2.2.2.2 u ω
           refine Ae 2 (Ga u r.rises.length (Ae 9 (Ga ((Eb r (Bj p r c k)).getD y 0) r.homes.length (Ae 2 (Ct (Jh (r.homes.getD ((Eb r (Bj p r c k)).getD y 0) V3.zero) (r.rises.getD u 0) (hg.2.2.1 _ hom).1 ⟨hris.1,hris.2.1⟩) (Ae 1 (oT 83 (Jz (r.homes.getD ((Eb r (Bj p r c k)).getD y 0) V3.zero) (r.rises.getD u 0)) (λhx13=>?_) (λhx13=>?_))))))))
           ·
            refine Ae 2 (Ct (Jh (Bj p r c k) (r.rises.getD u 0) hV ⟨hris.1,hris.2.1⟩) (Ae 3 (oT 87 (Jz (Bj p r c k) (r.rises.getD u 0)) (λhx14=>?_) (λhx14=>?_))))
            ·
             exact Ae 7 (Cb (.osl 61 3 1) (.new 61 (.vec 52 3 1 (λ_=> .lit (.agg #[.int .i64 (((Eb r (Bj p r c k)).getD y 0:Nat):Int),.int .i64 ((r.waits).getD k 0),.int .i64 ((r.rises).getD u 0)])))) (Aj 45 1 #[(0,(.tmp 92))] κ underlying45 3 sizeOf52 _ zeroValue52 κ β β β 61 [.int (((Eb r (Bj p r c k)).getD y 0:Nat):Int),.int ((r.waits).getD k 0),.int ((r.rises).getD u 0)] κ (λ_=> .lit (.agg #[.int .i64 (((Eb r (Bj p r c k)).getD y 0:Nat):Int),.int .i64 ((r.waits).getD k 0),.int .i64 ((r.rises).getD u 0)])) κ) (Cb (.osl 62 3 1) (.newr 61 62 (.vec 52 3 1 (λxi=>Cq ((Eu p r c k y (u+1)).getD xi Rl.none)))) (Cf (.tmp 88) (.tmp 93) 45 κ underlying45 3 24 (.agg #[.int .i64 0,.int .i64 0,.int .i64 0]) κ κ δ 1 ω (λ_=> .lit (.agg #[.int .i64 (((Eb r (Bj p r c k)).getD y 0:Nat):Int),.int .i64 ((r.waits).getD k 0),.int .i64 ((r.rises).getD u 0)])) (λxi=>Cq ((Eu p r c k y (u+1)).getD xi Rl.none)) 62 (λi hi=>by(obtain rfl:i=0:=(ω));show Cq _=Cq ⟨(((Eb r (Bj p r c k)).getD y 0:Nat):Int),r.waits.getD k 0,r.rises.getD u 0⟩;rw[Ib hx13 hx14,List.eq_nil_of_length_eq_zero (by omega:(Eu p r c k y u).length=0)];rfl) (λi hi j hj=>match j,hj with|0,_=>rfl|1,_=>rfl|2,_=>rfl|_+3,h=>absurd h ω) (by unfold maxLen;omega) ω κ 61 52 κ κ) (Ae 5 (Ev ((u:Int)+1) ((u+1:Nat):Int) (Ae 2 (Gk [3,4,5,8,10,15,20,29,30,31,63,64,65,70,71,72] [(62,50)] 61 0 hA0 [(52,3,1,(λ_=> .lit (.agg #[.int .i64 (((Eb r (Bj p r c k)).getD y 0:Nat):Int),.int .i64 ((r.waits).getD k 0),.int .i64 ((r.rises).getD u 0)]))),(52,3,1,(λxi=>Cq ((Eu p r c k y (u+1)).getD xi Rl.none)))] ⟨(Gp λ_ _=>rfl),(Gp λ_ _=>rfl),trivial⟩ (hJ6 _ _ (by omega:r.rises.length-(u+1)<r.rises.length-u) ⟨u+1,1,ω,rfl,⟨by rw[Ib hx13 hx14,List.length_append,List.length_singleton];omega,ω⟩,(.inr ⟨ω,rfl⟩)⟩)))))))
            ·
             exact Ae 5 (Ev ((u:Int)+1) ((u+1:Nat):Int) (Ae 2 (Ob [3,4,5,8,10,15,20,29,30,31,63,64,65,70,71,72] (hJ6 _ _ (by omega:r.rises.length-(u+1)<r.rises.length-u) ⟨u+1,0,ω,rfl,⟨by rw[Ez (.inr hx14)];omega,ω⟩,(.inl ⟨ω,rfl⟩)⟩))))
           ·
            exact Ae 11 (Ev ((u:Int)+1) ((u+1:Nat):Int) (Ae 2 (Ob [3,4,5,8,10,15,20,29,30,31,63,64,65,70,71,72] (hJ6 _ _ (by omega:r.rises.length-(u+1)<r.rises.length-u) ⟨u+1,0,ω,rfl,⟨by rw[Ez (.inl hx13)];omega,ω⟩,(.inl ⟨ω,rfl⟩)⟩))))
          ·
           exact Ae 8 (Ev ((y:Int)+1) ((y+1:Nat):Int) (Ae 2 (Ob [3,4,5,8,10,15,29,30,31,63,64,65] (hJ5 _ _ (by omega:r.homes.length-(y+1)<r.homes.length-y) ⟨y+1,0,ω,rfl,⟨by rw[<-Ts,show r.rises.length=u by omega];omega,ω⟩,(.inl ⟨ω,rfl⟩)⟩))))
         ·
          refine Ae 6 (Fd 73 ((u:Int)<(r.rises.length:Int)) (λhx15 hx15d=>?_) (λhx15 hx15d=>?_))
          ·
           refine Ae 5 ?_
           have hris:=hg.2.2.2.2.2.2 u ω
           refine Ae 2 (Ga u r.rises.length (Ae 9 (Ga ((Eb r (Bj p r c k)).getD y 0) r.homes.length (Ae 2 (Ct (Jh (r.homes.getD ((Eb r (Bj p r c k)).getD y 0) V3.zero) (r.rises.getD u 0) (hg.2.2.1 _ hom).1 ⟨hris.1,hris.2.1⟩) (Ae 1 (oT 83 (Jz (r.homes.getD ((Eb r (Bj p r c k)).getD y 0) V3.zero) (r.rises.getD u 0)) (λhx16=>?_) (λhx16=>?_))))))))
           ·
            refine Ae 2 (Ct (Jh (Bj p r c k) (r.rises.getD u 0) hV ⟨hris.1,hris.2.1⟩) (Ae 3 (oT 87 (Jz (Bj p r c k) (r.rises.getD u 0)) (λhx17=>?_) (λhx17=>?_))))
            ·
             exact Ae 7 (Cb (.osl 61 3 1) (.new 61 (.vec 52 3 1 (λ_=> .lit (.agg #[.int .i64 (((Eb r (Bj p r c k)).getD y 0:Nat):Int),.int .i64 ((r.waits).getD k 0),.int .i64 ((r.rises).getD u 0)])))) (Aj 45 1 #[(0,(.tmp 92))] κ underlying45 3 sizeOf52 _ zeroValue52 κ β β β 61 [.int (((Eb r (Bj p r c k)).getD y 0:Nat):Int),.int ((r.waits).getD k 0),.int ((r.rises).getD u 0)] κ (λ_=> .lit (.agg #[.int .i64 (((Eb r (Bj p r c k)).getD y 0:Nat):Int),.int .i64 ((r.waits).getD k 0),.int .i64 ((r.rises).getD u 0)])) κ) (Cb (.osl 62 3 (n3+1)) (.grow2 50 61 62 (.vec 52 3 (n3+1) (λxi=>Cq ((Eu p r c k y (u+1)).getD xi Rl.none)))) (Cu (.tmp 88) (.tmp 93) 45 κ underlying45 3 24 (.agg #[.int .i64 0,.int .i64 0,.int .i64 0]) κ κ δ n3 1 ω (λxi=>Cq ((Eu p r c k y u).getD xi Rl.none)) (λ_=> .lit (.agg #[.int .i64 (((Eb r (Bj p r c k)).getD y 0:Nat):Int),.int .i64 ((r.waits).getD k 0),.int .i64 ((r.rises).getD u 0)])) (λxi=>Cq ((Eu p r c k y (u+1)).getD xi Rl.none)) 62 ω (by unfold maxLen;omega) (λi hi=>by show Cq _=Cq _;rw[Ib hx16 hx17,Sh,if_pos ω]) (λi hi=>by(obtain rfl:i=0:=(ω));show Cq _=Cq ⟨(((Eb r (Bj p r c k)).getD y 0:Nat):Int),r.waits.getD k 0,r.rises.getD u 0⟩;rw[Ib hx16 hx17,Sh,if_neg ω,show n3+0-(Eu p r c k y u).length=0 by omega];rfl) (λi hi j hj=>match j,hj with|0,_=>rfl|1,_=>rfl|2,_=>rfl|_+3,h=>absurd h ω) 50 κ κ 61 52 κ κ) (Ae 5 (Ev ((u:Int)+1) ((u+1:Nat):Int) (Ae 2 (Gk [3,4,5,8,10,15,20,29,30,31,63,64,65,70,71,72] [(62,50)] 61 0 hA0 [(52,3,1,(λ_=> .lit (.agg #[.int .i64 (((Eb r (Bj p r c k)).getD y 0:Nat):Int),.int .i64 ((r.waits).getD k 0),.int .i64 ((r.rises).getD u 0)]))),(52,3,n3+1,(λxi=>Cq ((Eu p r c k y (u+1)).getD xi Rl.none)))] ⟨(Gp λ_ _=>rfl),(Gp λ_ _=>rfl),trivial⟩ (hJ6 _ _ (by omega:r.rises.length-(u+1)<r.rises.length-u) ⟨u+1,n3+1,ω,rfl,⟨by rw[Ib hx16 hx17,List.length_append,List.length_singleton];omega,ω⟩,(.inr ⟨ω,rfl⟩)⟩)))))))
            ·
             exact Ae 5 (Ev ((u:Int)+1) ((u+1:Nat):Int) (Ae 2 (Vz 50 52 3 n3 (λxi=>Cq ((Eu p r c k y u).getD xi Rl.none)) (λxi=>Cq ((Eu p r c k y (u+1)).getD xi Rl.none)) (λx9 hx9=>by rw[Ez (.inr hx17)]) (Ob [3,4,5,8,10,15,20,29,30,31,63,64,65,70,71,72] (hJ6 _ _ (by omega:r.rises.length-(u+1)<r.rises.length-u) ⟨u+1,n3,ω,rfl,⟨by rw[Ez (.inr hx17)];omega,ω⟩,(.inr ⟨ω,rfl⟩)⟩)))))
           ·
            exact Ae 11 (Ev ((u:Int)+1) ((u+1:Nat):Int) (Ae 2 (Vz 50 52 3 n3 (λxi=>Cq ((Eu p r c k y u).getD xi Rl.none)) (λxi=>Cq ((Eu p r c k y (u+1)).getD xi Rl.none)) (λx9 hx9=>by rw[Ez (.inl hx16)]) (Ob [3,4,5,8,10,15,20,29,30,31,63,64,65,70,71,72] (hJ6 _ _ (by omega:r.rises.length-(u+1)<r.rises.length-u) ⟨u+1,n3,ω,rfl,⟨by rw[Ez (.inl hx16)];omega,ω⟩,(.inr ⟨ω,rfl⟩)⟩)))))
          ·
           exact Ae 7 (Vz 50 52 3 n3 (λxi=>Cq ((Eu p r c k y u).getD xi Rl.none)) (λxi=>Cq ((Ol p r c k (y+1)).getD xi Rl.none)) (λx9 hx9=>by rw[<-Ts,show r.rises.length=u by omega]) (Ae 1 (Ev ((y:Int)+1) ((y+1:Nat):Int) (Ae 2 (Ob [3,4,5,8,10,15,29,30,31,63,64,65] (hJ5 _ _ (by omega:r.homes.length-(y+1)<r.homes.length-y) ⟨y+1,n3,ω,rfl,⟨by rw[<-Ts,show r.rises.length=u by omega];omega,ω⟩,(.inr ⟨ω,rfl⟩)⟩))))))
        ·
         exact Ae 8 (Ev ((k:Int)+1) ((k+1:Nat):Int) (Ae 2 (Gk [3,4,5,8,29,30,31] [] 3 0 hA0 [] trivial (hJ1 _ _ (by omega:r.waits.length-(k+1)<r.waits.length-k) ⟨k+1,0,ω,rfl,⟨by rw[<-bD hx2,show r.homes.length=y by omega];omega,ω⟩,(.inl ⟨ω,rfl⟩)⟩))))
       ·
        refine Ae 6 (Fd 66 ((y:Int)<(r.homes.length:Int)) (λhx18 hx18d=>?_) (λhx18 hx18d=>?_))
        ·
         refine Ae 7 (Ga y r.homes.length (Ae 4 ?_))
         have hom:=Vh r (Bj p r c k) (x:=y) ω
         refine Vz 50 52 3 n2 (λxi=>Cq ((Ol p r c k y).getD xi Rl.none)) (λxi=>Cq ((Eu p r c k y 0).getD xi Rl.none)) (λx9 hx9=>by rw[bC]) (Ae 9 (fG [3,4,5,8,10,15,20,29,30,31,63,64,65,70,71,72] (λm s=>∃u n3,u<=r.rises.length/\m=r.rises.length-u/\(n3=(Eu p r c k y u).length/\n3<=k*128+y*16+u)/\((0<n3)/\s=⟨[(3,.elt 3 (λxi=>[Fc p.names,Hl p.homes,Gs p.acts].getD (0+xi) .top)),(4,Th r),(5,.elt 2 (λxi=>[.int c.craft,.int c.act].getD (0+xi) .top)),(8,.osl 50 3 n3),(10,.int ((r.waits).getD k 0)),(15,Wk (Bj p r c k)),(20,.int (((Eb r (Bj p r c k)).getD y 0:Nat):Int)),(29,Dh r.waits),(30,.int (r.waits.length:Int)),(31,.int (k:Int)),(63,.sl 1 r.homes.length (λxi=>AV.int (((Eb r (Bj p r c k)).getD xi 0:Nat):Int))),(64,.int (r.homes.length:Int)),(65,.int (y:Int)),(70,Dh r.rises),(71,.int (r.rises.length:Int)),(72,.int (u:Int))],[(50,.vec 52 3 n3 (λxi=>Cq ((Eu p r c k y u).getD xi Rl.none)))],61,99⟩)) r.rises.length ⟨0,n2,Nat.zero_le _,rfl,⟨by rw[bC];omega,ω⟩,⟨hy0,κ⟩⟩ ?_))
         rintro _ _ ⟨u,n3,hun,rfl,hFu,(⟨hu0,rfl⟩)⟩ J7 hJ7
         ·
          refine Ae 6 (Fd 73 ((u:Int)<(r.rises.length:Int)) (λhx19 hx19d=>?_) (λhx19 hx19d=>?_))
          ·
           refine Ae 5 ?_
           have hris:=hg.2.2.2.2.2.2 u ω
           refine Ae 2 (Ga u r.rises.length (Ae 9 (Ga ((Eb r (Bj p r c k)).getD y 0) r.homes.length (Ae 2 (Ct (Jh (r.homes.getD ((Eb r (Bj p r c k)).getD y 0) V3.zero) (r.rises.getD u 0) (hg.2.2.1 _ hom).1 ⟨hris.1,hris.2.1⟩) (Ae 1 (oT 83 (Jz (r.homes.getD ((Eb r (Bj p r c k)).getD y 0) V3.zero) (r.rises.getD u 0)) (λhx20=>?_) (λhx20=>?_))))))))
           ·
            refine Ae 2 (Ct (Jh (Bj p r c k) (r.rises.getD u 0) hV ⟨hris.1,hris.2.1⟩) (Ae 3 (oT 87 (Jz (Bj p r c k) (r.rises.getD u 0)) (λhx21=>?_) (λhx21=>?_))))
            ·
             exact Ae 7 (Cb (.osl 61 3 1) (.new 61 (.vec 52 3 1 (λ_=> .lit (.agg #[.int .i64 (((Eb r (Bj p r c k)).getD y 0:Nat):Int),.int .i64 ((r.waits).getD k 0),.int .i64 ((r.rises).getD u 0)])))) (Aj 45 1 #[(0,(.tmp 92))] κ underlying45 3 sizeOf52 _ zeroValue52 κ β β β 61 [.int (((Eb r (Bj p r c k)).getD y 0:Nat):Int),.int ((r.waits).getD k 0),.int ((r.rises).getD u 0)] κ (λ_=> .lit (.agg #[.int .i64 (((Eb r (Bj p r c k)).getD y 0:Nat):Int),.int .i64 ((r.waits).getD k 0),.int .i64 ((r.rises).getD u 0)])) κ) (Cb (.osl 62 3 (n3+1)) (.grow2 50 61 62 (.vec 52 3 (n3+1) (λxi=>Cq ((Eu p r c k y (u+1)).getD xi Rl.none)))) (Cu (.tmp 88) (.tmp 93) 45 κ underlying45 3 24 (.agg #[.int .i64 0,.int .i64 0,.int .i64 0]) κ κ δ n3 1 ω (λxi=>Cq ((Eu p r c k y u).getD xi Rl.none)) (λ_=> .lit (.agg #[.int .i64 (((Eb r (Bj p r c k)).getD y 0:Nat):Int),.int .i64 ((r.waits).getD k 0),.int .i64 ((r.rises).getD u 0)])) (λxi=>Cq ((Eu p r c k y (u+1)).getD xi Rl.none)) 62 ω (by unfold maxLen;omega) (λi hi=>by show Cq _=Cq _;rw[Ib hx20 hx21,Sh,if_pos ω]) (λi hi=>by(obtain rfl:i=0:=(ω));show Cq _=Cq ⟨(((Eb r (Bj p r c k)).getD y 0:Nat):Int),r.waits.getD k 0,r.rises.getD u 0⟩;rw[Ib hx20 hx21,Sh,if_neg ω,show n3+0-(Eu p r c k y u).length=0 by omega];rfl) (λi hi j hj=>match j,hj with|0,_=>rfl|1,_=>rfl|2,_=>rfl|_+3,h=>absurd h ω) 50 κ κ 61 52 κ κ) (Ae 5 (Ev ((u:Int)+1) ((u+1:Nat):Int) (Ae 2 (Gk [3,4,5,8,10,15,20,29,30,31,63,64,65,70,71,72] [(62,50)] 61 0 hA0 [(52,3,1,(λ_=> .lit (.agg #[.int .i64 (((Eb r (Bj p r c k)).getD y 0:Nat):Int),.int .i64 ((r.waits).getD k 0),.int .i64 ((r.rises).getD u 0)]))),(52,3,n3+1,(λxi=>Cq ((Eu p r c k y (u+1)).getD xi Rl.none)))] ⟨(Gp λ_ _=>rfl),(Gp λ_ _=>rfl),trivial⟩ (hJ7 _ _ (by omega:r.rises.length-(u+1)<r.rises.length-u) ⟨u+1,n3+1,ω,rfl,⟨by rw[Ib hx20 hx21,List.length_append,List.length_singleton];omega,ω⟩,⟨ω,rfl⟩⟩)))))))
            ·
             exact Ae 5 (Ev ((u:Int)+1) ((u+1:Nat):Int) (Ae 2 (Vz 50 52 3 n3 (λxi=>Cq ((Eu p r c k y u).getD xi Rl.none)) (λxi=>Cq ((Eu p r c k y (u+1)).getD xi Rl.none)) (λx9 hx9=>by rw[Ez (.inr hx21)]) (Ob [3,4,5,8,10,15,20,29,30,31,63,64,65,70,71,72] (hJ7 _ _ (by omega:r.rises.length-(u+1)<r.rises.length-u) ⟨u+1,n3,ω,rfl,⟨by rw[Ez (.inr hx21)];omega,ω⟩,⟨ω,rfl⟩⟩)))))
           ·
            exact Ae 11 (Ev ((u:Int)+1) ((u+1:Nat):Int) (Ae 2 (Vz 50 52 3 n3 (λxi=>Cq ((Eu p r c k y u).getD xi Rl.none)) (λxi=>Cq ((Eu p r c k y (u+1)).getD xi Rl.none)) (λx9 hx9=>by rw[Ez (.inl hx20)]) (Ob [3,4,5,8,10,15,20,29,30,31,63,64,65,70,71,72] (hJ7 _ _ (by omega:r.rises.length-(u+1)<r.rises.length-u) ⟨u+1,n3,ω,rfl,⟨by rw[Ez (.inl hx20)];omega,ω⟩,⟨ω,rfl⟩⟩)))))
          ·
           exact Ae 7 (Vz 50 52 3 n3 (λxi=>Cq ((Eu p r c k y u).getD xi Rl.none)) (λxi=>Cq ((Ol p r c k (y+1)).getD xi Rl.none)) (λx9 hx9=>by rw[<-Ts,show r.rises.length=u by omega]) (Ae 1 (Ev ((y:Int)+1) ((y+1:Nat):Int) (Ae 2 (Ob [3,4,5,8,10,15,29,30,31,63,64,65] (hJ5 _ _ (by omega:r.homes.length-(y+1)<r.homes.length-y) ⟨y+1,n3,ω,rfl,⟨by rw[<-Ts,show r.rises.length=u by omega];omega,ω⟩,(.inr ⟨ω,rfl⟩)⟩))))))
        ·
         exact Ae 7 (Vz 50 52 3 n2 (λxi=>Cq ((Ol p r c k y).getD xi Rl.none)) (λxi=>Cq ((Jc p r c (k+1)).getD xi Rl.none)) (λx9 hx9=>by rw[<-bD hx2,show r.homes.length=y by omega]) (Ae 1 (Ev ((k:Int)+1) ((k+1:Nat):Int) (Ae 2 (Gk [3,4,5,8,29,30,31] [(50,50)] 51 0 hA0 [(52,3,n2,(λxi=>Cq ((Jc p r c (k+1)).getD xi Rl.none)))] ⟨(Gp λ_ _=>rfl),trivial⟩ (hJ1 _ _ (by omega:r.waits.length-(k+1)<r.waits.length-k) ⟨k+1,n2,ω,rfl,⟨by rw[<-bD hx2,show r.homes.length=y by omega];omega,ω⟩,(.inr ⟨ω,rfl⟩)⟩))))))
   ·
    exact Ct (Ua hp hg.1 hcs hg.2 ω hx2) (Ae 27 (Ev ((k:Int)+1) ((k+1:Nat):Int) (Ae 2 (Gk [3,4,5,8,29,30,31] [] 3 0 hA0 [] trivial (hJ1 _ _ (by omega:r.waits.length-(k+1)<r.waits.length-k) ⟨k+1,0,ω,rfl,⟨by rw[jL hx2];omega,ω⟩,(.inl ⟨ω,rfl⟩)⟩)))))
  ·
   exact Ae 14 (Fa (.lit (.tuple #[.slice none 0 0,.int .i64 0])) (by have hke:k=r.waits.length:=(ω);subst hke;exact(if_pos (by rw[Om];omega)).symm))
 ·
  refine Ae 6 (Fd 32 ((k:Int)<(r.waits.length:Int)) (λhx22 hx22d=>?_) (λhx22 hx22d=>?_))
  ·
   refine Ae 7 (Ga k r.waits.length (Ae 10 ?_))
   refine Gn (jJ p r c k) (λhx23=>?_) (λhx23=>?_)
   ·
    refine Ct (Sq hp hg.1 hcs hg.2 ω hx23) (Ae 19 (Ic 47 (decide ((((Oa p c (La p r c (r.waits.getD k 0))):Nat):Int)<0)) false (decide_eq_false ω) (Ae 5 ?_)))
    have hV:=tX hg.1 hx23
    refine cW 51 (Ae 7 (cW 52 (Ae 15 (fG [3,4,5,8,10,15,16,17,29,30,31,51,52] (λm s=>∃a,a<=r.homes.length/\m=r.homes.length-a/\True/\((a=0/\s=⟨[(3,.elt 3 (λxi=>[Fc p.names,Hl p.homes,Gs p.acts].getD (0+xi) .top)),(4,Th r),(5,.elt 2 (λxi=>[.int c.craft,.int c.act].getD (0+xi) .top)),(8,.osl 50 3 n),(10,.int ((r.waits).getD k 0)),(15,Wk (Bj p r c k)),(16,gV r (Bj p r c k)),(17,.lit (.slice none 0 0)),(29,Dh r.waits),(30,.int (r.waits.length:Int)),(31,.int (k:Int)),(51,.int (r.homes.length:Int)),(52,.int ((0:Nat):Int))],[(50,.vec 52 3 n (λxi=>Cq ((Jc p r c k).getD xi Rl.none)))],53,99⟩)\/(0<a/\s=⟨[(3,.elt 3 (λxi=>[Fc p.names,Hl p.homes,Gs p.acts].getD (0+xi) .top)),(4,Th r),(5,.elt 2 (λxi=>[.int c.craft,.int c.act].getD (0+xi) .top)),(8,.osl 50 3 n),(10,.int ((r.waits).getD k 0)),(15,Wk (Bj p r c k)),(16,gV r (Bj p r c k)),(17,.osl 60 1 a),(29,Dh r.waits),(30,.int (r.waits.length:Int)),(31,.int (k:Int)),(51,.int (r.homes.length:Int)),(52,.int (a:Int))],[(50,.vec 52 3 n (λxi=>Cq ((Jc p r c k).getD xi Rl.none))),(60,.vec 3 1 a (λxi=>AV.int (xi:Int)))],61,99⟩))) r.homes.length ⟨0,Nat.zero_le _,rfl,trivial,.inl ⟨rfl,κ⟩⟩ ?_))))
    rintro _ _ ⟨a,han,rfl,hFa,(⟨ha0,rfl⟩|⟨ha0,rfl⟩)⟩ J8 hJ8
    ·
     subst ha0
     refine Ae 6 (Fd 53 (((0:Nat):Int)<(r.homes.length:Int)) (λhx24 hx24d=>?_) (λhx24 hx24d=>?_))
     ·
      exact Ae 14 (Cb (.osl 53 1 1) (.new 53 (.vec 3 1 1 (λ_=> .int ((0:Nat):Int)))) (Aj 23 1 #[(0,(.tmp 56))] κ underlying23 1 sizeOf3 _ zeroValue3 κ β β β 53 [.int ((0:Nat):Int)] κ (λ_=> .int ((0:Nat):Int)) κ) (Cb (.osl 54 1 1) (.newr 53 54 (.vec 3 1 1 (λxi=>AV.int (xi:Int)))) (Cf (.tmp 55) (.tmp 57) 23 κ underlying23 1 8 (.int .i64 0) κ κ δ 1 ω (λ_=> .int ((0:Nat):Int)) (λxi=>AV.int (xi:Int)) 54 (λi hi=>by(obtain rfl:i=0:=(ω));rfl) (λi hi j hj=>by obtain rfl:j=0:=(ω);rfl) (by unfold maxLen;omega) ω κ 53 3 κ κ) (Ae 5 (Ev (((0:Nat):Int)+1) ((0+1:Nat):Int) (Ae 2 (Gk [3,4,5,8,10,15,16,17,29,30,31,51,52] [(50,50),(54,60)] 61 0 hA0 [(52,3,n,(λxi=>Cq ((Jc p r c k).getD xi Rl.none))),(3,1,1,(λ_=> .int ((0:Nat):Int))),(3,1,1,(λxi=>AV.int (xi:Int)))] ⟨(Gp λ_ _=>rfl),(Gp λ_ _=>rfl),(Gp λ_ _=>rfl),trivial⟩ (hJ8 _ _ (by omega:r.homes.length-(0+1)<r.homes.length-0) ⟨0+1,ω,rfl,trivial,.inr ⟨Nat.succ_pos _,rfl⟩⟩)))))))
     ·
      refine Ae 6 ?_
      exfalso;omega
    ·
     refine Ae 6 (Fd 53 ((a:Int)<(r.homes.length:Int)) (λhx25 hx25d=>?_) (λhx25 hx25d=>?_))
     ·
      exact Ae 14 (Cb (.osl 61 1 1) (.new 61 (.vec 3 1 1 (λ_=> .int (a:Int)))) (Aj 23 1 #[(0,(.tmp 56))] κ underlying23 1 sizeOf3 _ zeroValue3 κ β β β 61 [.int (a:Int)] κ (λ_=> .int (a:Int)) κ) (Cb (.osl 62 1 (a+1)) (.grow2 60 61 62 (.vec 3 1 (a+1) (λxi=>AV.int (xi:Int)))) (Cu (.tmp 55) (.tmp 57) 23 κ underlying23 1 8 (.int .i64 0) κ κ δ a 1 ω (λxi=>AV.int (xi:Int)) (λ_=> .int (a:Int)) (λxi=>AV.int (xi:Int)) 62 ω (by unfold maxLen;omega) (λi hi=>rfl) (λi hi=>by(obtain rfl:i=0:=(ω));rfl) (λi hi j hj=>by obtain rfl:j=0:=(ω);rfl) 60 κ κ 61 3 κ κ) (Ae 5 (Ev ((a:Int)+1) ((a+1:Nat):Int) (Ae 2 (Gk [3,4,5,8,10,15,16,17,29,30,31,51,52] [(50,50),(62,60)] 61 0 hA0 [(52,3,n,(λxi=>Cq ((Jc p r c k).getD xi Rl.none))),(3,1,1,(λ_=> .int (a:Int))),(3,1,a+1,(λxi=>AV.int (xi:Int)))] ⟨(Gp λ_ _=>rfl),(Gp λ_ _=>rfl),(Gp λ_ _=>rfl),trivial⟩ (hJ8 _ _ (by omega:r.homes.length-(a+1)<r.homes.length-a) ⟨a+1,ω,rfl,trivial,.inr ⟨Nat.succ_pos _,rfl⟩⟩)))))))
     ·
      refine Ae 6 ?_
      have hae:a=r.homes.length:=by omega
      subst hae
      refine Ae 4 (Yf 61 func41 (λ_ hD26=>?_))
      refine Ae 11 (Mt (.int .u64 (IntKind.wrap .u64 (r.homes.length:Int))) (.int .u64 (r.homes.length:Int)) ?_ (congrArg (Value.int .u64) (IntWalk.u64_in _ ω)))
      refine Ct (zM _ ω) (Ae 1 (Yf 61 func76 (λ_ hD27=>?_)))
      refine Ae 11 (yT 1 (Ae 5 (Ev ((r.homes.length:Int)-0) ((r.homes.length-0:Nat):Int) (Ae 8 (Ic 25 (decide (((r.homes.length-0:Nat):Int)<=12)) true (decide_eq_true ω) (Ae 9 (Yf 61 func104 (λ_ hD28=>?_))))))))
      refine Ae 3 (Mt (.int .i64 1) (.int .i64 1) (Ae 4 (Vz 60 3 1 r.homes.length (λxi=>AV.int (xi:Int)) (λxi=>AV.int (((Lt (cF r (Bj p r c k)) (List.range r.homes.length) 0).getD xi 0:Nat):Int)) (λx9 hx9=>by show AV.int _=AV.int _;rw[Lt,Vo hx9]) (Lh [0,1,2,3,8] (r.homes.length-1) (λi=>True) (λi=>⟨[(0,.osl 60 1 r.homes.length),(1,.int 0),(2,.int (r.homes.length:Int)),(3,.fn 42 [gV r (Bj p r c k)]),(8,.int ((i+1:Nat):Int))],[(50,.vec 52 3 n (λxi=>Cq ((Jc p r c k).getD xi Rl.none))),(60,.vec 3 1 r.homes.length (λxi=>AV.int (((Lt (cF r (Bj p r c k)) (List.range r.homes.length) i).getD xi 0:Nat):Int)))],61,53⟩) trivial (λi hin hFi J9 hJ9=>?_)))))
      refine Ae 8 (Fd 14 (((i+1:Nat):Int)<(r.homes.length:Int)) (λhx29 hx29d=>?_) (λhx29 hx29d=>?_))
      ·
       refine Ae 12 (fG [0,1,2,3,8,9] (λm s=>∃j L,m=j+1/\(Us (cF r (Bj p r c k)) L j=Lt (cF r (Bj p r c k)) (List.range r.homes.length) (i+1)/\j<=i+1/\L.length=r.homes.length/\(∀x,x<r.homes.length->L.getD x 0<r.homes.length))/\s=⟨[(0,.osl 60 1 r.homes.length),(1,.int 0),(2,.int (r.homes.length:Int)),(3,.fn 42 [gV r (Bj p r c k)]),(8,.int ((i+1:Nat):Int)),(9,.int (j:Int))],[(50,.vec 52 3 n (λxi=>Cq ((Jc p r c k).getD xi Rl.none))),(60,.vec 3 1 r.homes.length (λxi=>AV.int (((L).getD xi 0:Nat):Int)))],61,53⟩) ((i+1)+1) ⟨i+1,(Lt (cF r (Bj p r c k)) (List.range r.homes.length) i),rfl,⟨rfl,Nat.le_refl _,by rw[Oq,List.length_range],fA r (Bj p r c k) ω⟩,κ⟩ ?_)
       rintro _ _ ⟨j,L,rfl,hF,rfl⟩ J10 hJ10
       obtain⟨hF1,hF2,hF3,hF4⟩:=hF
       refine Ae 2 (uP ((0:Int)<(j:Int)) (λhx30 hx30d=>?_) (λhx30 hx30d=>?_))
       ·
        refine Jf [(2,.bool true,.none),(7,Fi (.osl 60 1 r.homes.length) j,.none),(8,.int (((L).getD j 0:Nat):Int),(.read 60)),(11,.int ((j-1:Nat):Int),.none),(12,Fi (.osl 60 1 r.homes.length) (j-1),.none),(13,.int (((L).getD (j-1) 0:Nat):Int),(.read 60)),(14,_,.none)] [0,1,2,3,8,9,34] ⟨jX hx30,Ni j r.homes.length,Bc (Dd 3 (.tmp 25) κ isAgg3 60 j 0 1 κ 3 r.homes.length (λxi=>AV.int (((L).getD xi 0:Nat):Int)) κ ω δ),Bc (Ca (v:= .int .i64 (IntKind.wrap .i64 ((j:Int)-1))) (v':= .int .i64 ((j-1:Nat):Int)) _ κ rfl κ (λw=>by kernel_rfl) (congrArg (Value.int .i64) ((IntWalk.i64_in _ ω).trans ω))),Ni (j-1) r.homes.length,Bc (Dd 3 (.tmp 30) κ isAgg3 60 (j-1) 0 1 κ 3 r.homes.length (λxi=>AV.int (((L).getD xi 0:Nat):Int)) κ ω δ),Ac3 (rU r (Bj p r c k) (L.getD j 0) (L.getD (j-1) 0) hg.2 (hF4 j ω) (hF4 (j-1) ω) hV),trivial⟩ (Ae 1 (Fd 34 (orI (Jy (Sn r (Bj p r c k) (L.getD j 0)) (Sn r (Bj p r c k) (L.getD (j-1) 0))) (Jy ((L.getD j 0:Nat):Int) ((L.getD (j-1) 0:Nat):Int))<0) (λhx31 hx31d=>?_) (λhx31 hx31d=>?_)))
        ·
         exact Ae 5 (Jf [(4,.int ((j-1:Nat):Int),.none),(7,.int ((j-1:Nat):Int),.none),(8,Fi (.osl 60 1 r.homes.length) (j-1),.none),(9,.int (((L).getD (j-1) 0:Nat):Int),(.read 60)),(12,Fi (.osl 60 1 r.homes.length) j,.none),(13,.int (((L).getD j 0:Nat):Int),(.read 60)),(14,Fi (.osl 60 1 r.homes.length) j,.none),(15,.lit Go.undef,(.set 60 (.vec 3 1 r.homes.length (λxi=>if xi=j then .int (((L).getD (j-1) 0:Nat):Int) else (λxi=>AV.int (((L).getD xi 0:Nat):Int)) xi)))),(16,Fi (.osl 60 1 r.homes.length) (j-1),.none),(17,.lit Go.undef,(.set 60 (.vec 3 1 r.homes.length (λxi=>if xi=j-1 then .int (((L).getD j 0:Nat):Int) else (λxi=>if xi=j then .int (((L).getD (j-1) 0:Nat):Int) else (λxi=>AV.int (((L).getD xi 0:Nat):Int)) xi) xi))))] [0,1,2,3,8,9] ⟨Bc (Ca (v:= .int .i64 (IntKind.wrap .i64 ((j:Int)-1))) (v':= .int .i64 ((j-1:Nat):Int)) _ κ rfl κ (λw=>by kernel_rfl) (congrArg (Value.int .i64) ((IntWalk.i64_in _ ω).trans ω))),Bc (Ca (v:= .int .i64 (IntKind.wrap .i64 ((j:Int)-1))) (v':= .int .i64 ((j-1:Nat):Int)) _ κ rfl κ (λw=>by kernel_rfl) (congrArg (Value.int .i64) ((IntWalk.i64_in _ ω).trans ω))),Ni (j-1) r.homes.length,Bc (Dd 3 (.tmp 45) κ isAgg3 60 (j-1) 0 1 κ 3 r.homes.length (λxi=>AV.int (((L).getD xi 0:Nat):Int)) κ ω δ),Ni j r.homes.length,Bc (Dd 3 (.tmp 49) κ isAgg3 60 j 0 1 κ 3 r.homes.length (λxi=>AV.int (((L).getD xi 0:Nat):Int)) κ ω δ),Ni j r.homes.length,Bc (Fq 3 (.tmp 51) (.tmp 46) κ 1 sizeOf3 60 j κ 3 r.homes.length (λxi=>AV.int (((L).getD xi 0:Nat):Int)) κ ω κ κ κ (.int (((L).getD (j-1) 0:Nat):Int)) κ),Ni (j-1) r.homes.length,Bc (Fq 3 (.tmp 52) (.tmp 50) κ 1 sizeOf3 60 (j-1) κ 3 r.homes.length (λxi=>if xi=j then .int (((L).getD (j-1) 0:Nat):Int) else (λxi=>AV.int (((L).getD xi 0:Nat):Int)) xi) κ ω κ κ κ (.int (((L).getD j 0:Nat):Int)) κ),trivial⟩ (Ae 2 (Vz 60 3 1 r.homes.length (λxi=>if xi=j-1 then .int (((L).getD j 0:Nat):Int) else (λxi=>if xi=j then .int (((L).getD (j-1) 0:Nat):Int) else (λxi=>AV.int (((L).getD xi 0:Nat):Int)) xi) xi) (λxi=>AV.int (((Ou L (j-1)).getD xi 0:Nat):Int)) (λx9 hx9=>uG L j x9 ω ω) (Ae 2 (Ev ((j:Int)-1) ((j-1:Nat):Int) (Ae 2 (Ob [0,1,2,3,8,9] (hJ10 _ _ (by omega:(j-1)+1<j+1) ⟨j-1,Ou L (j-1),rfl,⟨(eG ω ((Yp r (Bj p r c k) (L.getD j 0) (L.getD (j-1) 0)).symm.trans hx31)).symm.trans hF1,ω,by rw[Mf];exact hF3,by rw[<-hF3];exact fB ω (by rw[hF3];exact hF4)⟩,rfl⟩))))))))
        ·
         refine Ae 7 ?_
         have hL:L=Lt (cF r (Bj p r c k)) (List.range r.homes.length) (i+1):=(eH ω ((Yp r (Bj p r c k) (L.getD j 0) (L.getD (j-1) 0)).symm.trans hx31)).symm.trans hF1
         subst hL
         exact Ae 2 (Ev (((i+1:Nat):Int)+1) ((i+1+1:Nat):Int) (Ae 2 (Ob [0,1,2,3,8] (hJ9 ω trivial))))
       ·
        refine Jf [(2,.bool false,.none)] [0,1,2,3,8,9,34] ⟨jX hx30,trivial⟩ (Ae 8 ?_)
        have hL:L=Lt (cF r (Bj p r c k)) (List.range r.homes.length) (i+1):=(eI ω).symm.trans hF1
        subst hL
        exact Ae 2 (Ev (((i+1:Nat):Int)+1) ((i+1+1:Nat):Int) (Ae 2 (Ob [0,1,2,3,8] (hJ9 ω trivial))))
      ·
       refine Ae 5 (rM (Ae 7 (rM (Ae 1 (rM (Ae 2 ?_))))))
       have hie:i=r.homes.length-1:=by omega
       subst hie
       refine Vz 60 3 1 r.homes.length (λxi=>AV.int (((Lt (cF r (Bj p r c k)) (List.range r.homes.length) (r.homes.length-1)).getD xi 0:Nat):Int)) (λxi=>AV.int (((Eb r (Bj p r c k)).getD xi 0:Nat):Int)) (λx9 hx9=>rfl) (Yc 60 [17] 3 1 r.homes.length (λxi=>AV.int (((Eb r (Bj p r c k)).getD xi 0:Nat):Int)) (Gp λ_ _=>rfl) (Vz 50 52 3 n (λxi=>Cq ((Jc p r c k).getD xi Rl.none)) (λxi=>Cq ((Ol p r c k 0).getD xi Rl.none)) (λx9 hx9=>by rw[qR]) (Ae 8 (fG [3,4,5,8,10,15,29,30,31,63,64,65] (λm s=>∃y n2,y<=r.homes.length/\m=r.homes.length-y/\(n2=(Ol p r c k y).length/\n2<=k*128+y*16)/\((0<n2)/\s=⟨[(3,.elt 3 (λxi=>[Fc p.names,Hl p.homes,Gs p.acts].getD (0+xi) .top)),(4,Th r),(5,.elt 2 (λxi=>[.int c.craft,.int c.act].getD (0+xi) .top)),(8,.osl 50 3 n2),(10,.int ((r.waits).getD k 0)),(15,Wk (Bj p r c k)),(29,Dh r.waits),(30,.int (r.waits.length:Int)),(31,.int (k:Int)),(63,.sl 1 r.homes.length (λxi=>AV.int (((Eb r (Bj p r c k)).getD xi 0:Nat):Int))),(64,.int (r.homes.length:Int)),(65,.int (y:Int))],[(50,.vec 52 3 n2 (λxi=>Cq ((Ol p r c k y).getD xi Rl.none)))],61,99⟩)) r.homes.length ⟨0,n,Nat.zero_le _,rfl,⟨by rw[qR];omega,ω⟩,⟨hk0,κ⟩⟩ ?_))))
       rintro _ _ ⟨y,n2,hyn,rfl,hFy,(⟨hy0,rfl⟩)⟩ J11 hJ11
       ·
        refine Ae 6 (Fd 66 ((y:Int)<(r.homes.length:Int)) (λhx32 hx32d=>?_) (λhx32 hx32d=>?_))
        ·
         refine Ae 7 (Ga y r.homes.length (Ae 4 ?_))
         have hom:=Vh r (Bj p r c k) (x:=y) ω
         refine Vz 50 52 3 n2 (λxi=>Cq ((Ol p r c k y).getD xi Rl.none)) (λxi=>Cq ((Eu p r c k y 0).getD xi Rl.none)) (λx9 hx9=>by rw[bC]) (Ae 9 (fG [3,4,5,8,10,15,20,29,30,31,63,64,65,70,71,72] (λm s=>∃u n3,u<=r.rises.length/\m=r.rises.length-u/\(n3=(Eu p r c k y u).length/\n3<=k*128+y*16+u)/\((0<n3)/\s=⟨[(3,.elt 3 (λxi=>[Fc p.names,Hl p.homes,Gs p.acts].getD (0+xi) .top)),(4,Th r),(5,.elt 2 (λxi=>[.int c.craft,.int c.act].getD (0+xi) .top)),(8,.osl 50 3 n3),(10,.int ((r.waits).getD k 0)),(15,Wk (Bj p r c k)),(20,.int (((Eb r (Bj p r c k)).getD y 0:Nat):Int)),(29,Dh r.waits),(30,.int (r.waits.length:Int)),(31,.int (k:Int)),(63,.sl 1 r.homes.length (λxi=>AV.int (((Eb r (Bj p r c k)).getD xi 0:Nat):Int))),(64,.int (r.homes.length:Int)),(65,.int (y:Int)),(70,Dh r.rises),(71,.int (r.rises.length:Int)),(72,.int (u:Int))],[(50,.vec 52 3 n3 (λxi=>Cq ((Eu p r c k y u).getD xi Rl.none)))],61,99⟩)) r.rises.length ⟨0,n2,Nat.zero_le _,rfl,⟨by rw[bC];omega,ω⟩,⟨hy0,κ⟩⟩ ?_))
         rintro _ _ ⟨u,n3,hun,rfl,hFu,(⟨hu0,rfl⟩)⟩ J12 hJ12
         ·
          refine Ae 6 (Fd 73 ((u:Int)<(r.rises.length:Int)) (λhx33 hx33d=>?_) (λhx33 hx33d=>?_))
          ·
           refine Ae 5 ?_
           have hris:=hg.2.2.2.2.2.2 u ω
           refine Ae 2 (Ga u r.rises.length (Ae 9 (Ga ((Eb r (Bj p r c k)).getD y 0) r.homes.length (Ae 2 (Ct (Jh (r.homes.getD ((Eb r (Bj p r c k)).getD y 0) V3.zero) (r.rises.getD u 0) (hg.2.2.1 _ hom).1 ⟨hris.1,hris.2.1⟩) (Ae 1 (oT 83 (Jz (r.homes.getD ((Eb r (Bj p r c k)).getD y 0) V3.zero) (r.rises.getD u 0)) (λhx34=>?_) (λhx34=>?_))))))))
           ·
            refine Ae 2 (Ct (Jh (Bj p r c k) (r.rises.getD u 0) hV ⟨hris.1,hris.2.1⟩) (Ae 3 (oT 87 (Jz (Bj p r c k) (r.rises.getD u 0)) (λhx35=>?_) (λhx35=>?_))))
            ·
             exact Ae 7 (Cb (.osl 61 3 1) (.new 61 (.vec 52 3 1 (λ_=> .lit (.agg #[.int .i64 (((Eb r (Bj p r c k)).getD y 0:Nat):Int),.int .i64 ((r.waits).getD k 0),.int .i64 ((r.rises).getD u 0)])))) (Aj 45 1 #[(0,(.tmp 92))] κ underlying45 3 sizeOf52 _ zeroValue52 κ β β β 61 [.int (((Eb r (Bj p r c k)).getD y 0:Nat):Int),.int ((r.waits).getD k 0),.int ((r.rises).getD u 0)] κ (λ_=> .lit (.agg #[.int .i64 (((Eb r (Bj p r c k)).getD y 0:Nat):Int),.int .i64 ((r.waits).getD k 0),.int .i64 ((r.rises).getD u 0)])) κ) (Cb (.osl 62 3 (n3+1)) (.grow2 50 61 62 (.vec 52 3 (n3+1) (λxi=>Cq ((Eu p r c k y (u+1)).getD xi Rl.none)))) (Cu (.tmp 88) (.tmp 93) 45 κ underlying45 3 24 (.agg #[.int .i64 0,.int .i64 0,.int .i64 0]) κ κ δ n3 1 ω (λxi=>Cq ((Eu p r c k y u).getD xi Rl.none)) (λ_=> .lit (.agg #[.int .i64 (((Eb r (Bj p r c k)).getD y 0:Nat):Int),.int .i64 ((r.waits).getD k 0),.int .i64 ((r.rises).getD u 0)])) (λxi=>Cq ((Eu p r c k y (u+1)).getD xi Rl.none)) 62 ω (by unfold maxLen;omega) (λi hi=>by show Cq _=Cq _;rw[Ib hx34 hx35,Sh,if_pos ω]) (λi hi=>by(obtain rfl:i=0:=(ω));show Cq _=Cq ⟨(((Eb r (Bj p r c k)).getD y 0:Nat):Int),r.waits.getD k 0,r.rises.getD u 0⟩;rw[Ib hx34 hx35,Sh,if_neg ω,show n3+0-(Eu p r c k y u).length=0 by omega];rfl) (λi hi j hj=>match j,hj with|0,_=>rfl|1,_=>rfl|2,_=>rfl|_+3,h=>absurd h ω) 50 κ κ 61 52 κ κ) (Ae 5 (Ev ((u:Int)+1) ((u+1:Nat):Int) (Ae 2 (Gk [3,4,5,8,10,15,20,29,30,31,63,64,65,70,71,72] [(62,50)] 61 0 hA0 [(52,3,1,(λ_=> .lit (.agg #[.int .i64 (((Eb r (Bj p r c k)).getD y 0:Nat):Int),.int .i64 ((r.waits).getD k 0),.int .i64 ((r.rises).getD u 0)]))),(52,3,n3+1,(λxi=>Cq ((Eu p r c k y (u+1)).getD xi Rl.none)))] ⟨(Gp λ_ _=>rfl),(Gp λ_ _=>rfl),trivial⟩ (hJ12 _ _ (by omega:r.rises.length-(u+1)<r.rises.length-u) ⟨u+1,n3+1,ω,rfl,⟨by rw[Ib hx34 hx35,List.length_append,List.length_singleton];omega,ω⟩,⟨ω,rfl⟩⟩)))))))
            ·
             exact Ae 5 (Ev ((u:Int)+1) ((u+1:Nat):Int) (Ae 2 (Vz 50 52 3 n3 (λxi=>Cq ((Eu p r c k y u).getD xi Rl.none)) (λxi=>Cq ((Eu p r c k y (u+1)).getD xi Rl.none)) (λx9 hx9=>by rw[Ez (.inr hx35)]) (Ob [3,4,5,8,10,15,20,29,30,31,63,64,65,70,71,72] (hJ12 _ _ (by omega:r.rises.length-(u+1)<r.rises.length-u) ⟨u+1,n3,ω,rfl,⟨by rw[Ez (.inr hx35)];omega,ω⟩,⟨ω,rfl⟩⟩)))))
           ·
            exact Ae 11 (Ev ((u:Int)+1) ((u+1:Nat):Int) (Ae 2 (Vz 50 52 3 n3 (λxi=>Cq ((Eu p r c k y u).getD xi Rl.none)) (λxi=>Cq ((Eu p r c k y (u+1)).getD xi Rl.none)) (λx9 hx9=>by rw[Ez (.inl hx34)]) (Ob [3,4,5,8,10,15,20,29,30,31,63,64,65,70,71,72] (hJ12 _ _ (by omega:r.rises.length-(u+1)<r.rises.length-u) ⟨u+1,n3,ω,rfl,⟨by rw[Ez (.inl hx34)];omega,ω⟩,⟨ω,rfl⟩⟩)))))
          ·
           exact Ae 7 (Vz 50 52 3 n3 (λxi=>Cq ((Eu p r c k y u).getD xi Rl.none)) (λxi=>Cq ((Ol p r c k (y+1)).getD xi Rl.none)) (λx9 hx9=>by rw[<-Ts,show r.rises.length=u by omega]) (Ae 1 (Ev ((y:Int)+1) ((y+1:Nat):Int) (Ae 2 (Ob [3,4,5,8,10,15,29,30,31,63,64,65] (hJ11 _ _ (by omega:r.homes.length-(y+1)<r.homes.length-y) ⟨y+1,n3,ω,rfl,⟨by rw[<-Ts,show r.rises.length=u by omega];omega,ω⟩,⟨ω,rfl⟩⟩))))))
        ·
         exact Ae 7 (Vz 50 52 3 n2 (λxi=>Cq ((Ol p r c k y).getD xi Rl.none)) (λxi=>Cq ((Jc p r c (k+1)).getD xi Rl.none)) (λx9 hx9=>by rw[<-bD hx23,show r.homes.length=y by omega]) (Ae 1 (Ev ((k:Int)+1) ((k+1:Nat):Int) (Ae 2 (Gk [3,4,5,8,29,30,31] [(50,50)] 51 0 hA0 [(52,3,n2,(λxi=>Cq ((Jc p r c (k+1)).getD xi Rl.none)))] ⟨(Gp λ_ _=>rfl),trivial⟩ (hJ1 _ _ (by omega:r.waits.length-(k+1)<r.waits.length-k) ⟨k+1,n2,ω,rfl,⟨by rw[<-bD hx23,show r.homes.length=y by omega];omega,ω⟩,(.inr ⟨ω,rfl⟩)⟩))))))
   ·
    exact Ct (Ua hp hg.1 hcs hg.2 ω hx23) (Ae 27 (Ev ((k:Int)+1) ((k+1:Nat):Int) (Ae 2 (Vz 50 52 3 n (λxi=>Cq ((Jc p r c k).getD xi Rl.none)) (λxi=>Cq ((Jc p r c (k+1)).getD xi Rl.none)) (λx9 hx9=>by rw[jL hx23]) (Gk [3,4,5,8,29,30,31] [(50,50)] 51 0 hA0 [(52,3,n,(λxi=>Cq ((Jc p r c (k+1)).getD xi Rl.none)))] ⟨(Gp λ_ _=>rfl),trivial⟩ (hJ1 _ _ (by omega:r.waits.length-(k+1)<r.waits.length-k) ⟨k+1,n,ω,rfl,⟨by rw[jL hx23];omega,ω⟩,(.inr ⟨ω,rfl⟩)⟩))))))
  ·
   exact Ae 13 (Yc 50 [6] 52 3 n (λxi=>Cq ((Jc p r c k).getD xi Rl.none)) (Gp λ_ _=>rfl) (Ae 1 (Fa (.tup [.sl 3 n (λxi=>Cq ((Jc p r c k).getD xi Rl.none)),.int 0]) (by have hke:k=r.waits.length:=(ω);subst hke;rw[tZ,if_neg (by rw[Om];omega),hFk.1];rfl))))
abbrev Aec (p:Nat->Int) (m:Nat) (a b d:Int):Nat->Int:=cN p m a b d (m-1)
theorem kF (p:Nat->Int) (a b d:Int) (ha:Co a) (hb:Co b) (hd:Co d) (hdp:0<d):AF Tryz.prog 158 [Bb 0 p,WA a,WA b,WA d] (.lit (.tuple #[.slice none 0 0,.int .i64 0])):=by
 refine Cc func158 rfl λB D0 hA0=>?_
 exact Ae 13 (Ct (Pb 0 p ω (λi hi=>absurd hi (Nat.not_lt_zero i)) (.inl rfl)) (Ae 3 (Ct (Ji _ (Hq ha)) (Ae 4 (Ct (Ji _ (Hq hb)) (Ae 4 (Ct (Ji _ (Hq hd)) (Ae 11 (Ct (Uc d (Hq hd)) (Ae 3 (Ic 37 (decide (d.sign<=0)) false (decide_eq_false (by rw[Int.sign_eq_one_of_pos hdp];decide)) (Ae 20 (Gc)))))))))))))
theorem VR.nil_poly {E:Bk} {v:Value} {c:Nat->Int} {e:Int} (h:VR E (.lit (.tuple #[.slice none 0 0,.int .i64 e])) v):VR E (.tup [Bb 0 c,.int e]) v:=by
 have:=h.lit_inv
 subst this
 refine .tup _ _ _ rfl λi hi=>?_
 match i,hi with
 |0,_=>exact .sl0 _ _ _ _ _
 |1,_=>exact .lit _ _
theorem Tc (m:Nat) (p:Nat->Int) (a b d:Int) (hm:m<=6) (hp:∀i,Co (p i)) (hl:m=0\/p (m-1)≠0) (ha:Co a) (hb:Co b) (hd:Co d) (hdp:0<d):AF Tryz.prog 158 [Bb m p,WA a,WA b,WA d] (.tup [Bb (Fl (Aec p m a b d) m) (Aec p m a b d),.int 0]):=by
 cases m with
 |zero=>exact zQ (kF p a b d ha hb hd hdp) rfl (λ_ _ _ _ h=>h) λE v hv=>hv.nil_poly
 |succ k=>exact kG k p a b d ω hp (hl.resolve_left ω) ha hb hd hdp
abbrev cG (l:List Int):Nat:=Fl (Yj l) l.length
abbrev mY (l:List Int) (a b d:Int):Nat->Int:=Aec (Yj l) (cG l) a b d
abbrev oc (l:List Int) (a b d:Int) (i:Nat):Int:=mY l a b d i*d^(6-l.length)
abbrev on (l:List Int) (a b d:Int):Nat:=Fl (oc l a b d) (Fl (mY l a b d) (cG l))
theorem iT {l:List Int} (h:∀i,Co (l.getD i 0)) (hn:l.length<=6) {a b d:Int} (ha:Co a) (hb:Co b) (hd:Co d) (i:Nat):Bd 500 (mY l a b d i):=by
 have:cG l<=l.length:=Hk (Yj l) l.length
 exact(lK h ha hb hd _ i).mono ω
theorem eO {l:List Int} (h:∀i,Co (l.getD i 0)) (hn:l.length<=6) {a b d:Int} (ha:Co a) (hb:Co b) (hd:Co d) (i:Nat):Bd 1000 (oc l a b d i):=
 ((iT h hn ha hb hd i).mul ((Bd.int hd.1 hd.2).pow (6-l.length))).mono ω
theorem Abi (l:List Int) (a b d:Int) (hn:l.length<=6):on l a b d<=6:=Nat.le_trans (Hk _ _) (Nat.le_trans (Hk _ _) (Nat.le_trans (Hk _ _) hn))
abbrev Tp (l:List Int) (a b d:Int):AV:=Bb (on l a b d) (oc l a b d)
theorem kH (s:Sg) (a b d:Int) (hs:Tf s) (hx0:0<s.x.length) (hx6:s.x.length<=6) (hy0:0<s.y.length) (hy6:s.y.length<=6) (hz0:0<s.z.length) (hz6:s.z.length<=6) (ha:Co a) (hb:Co b) (hd:Co d) (hdp:0<d):AF Tryz.prog 141 [Cn s,.int a,.int b,.int d] (.agg [Tp s.x a b d,Tp s.y a b d,Tp s.z a b d]):=by
 have hlx:cG s.x<=s.x.length:=Hk (Yj s.x) s.x.length
 have hly:cG s.y<=s.y.length:=Hk (Yj s.y) s.y.length
 have hlz:cG s.z<=s.z.length:=Hk (Yj s.z) s.z.length
 refine Cc func141 rfl λB D0 hA0=>?_
 exact Ae 10 (Ct (rT s) (Ae 4 (yT 3 (Ae 14 (Cb (Bf s.x) .none (Dk 147 (.tmp 14) (.tmp 15) κ underlying147 1 sizeOf23 0 false isAgg23 [Bf s.x,Bf s.y,Bf s.z] 0 κ κ ω δ β δ (Bf s.x) κ) (Ae 7 (Ct (Wc s.x hx0 ω hs.x) (Ae 11 (Ct (Gl a ha.1 ha.2) (Ae 1 (Ct (Gl b hb.1 hb.2) (Ae 1 (Ct (Gl d hd.1 hd.2) (Ct (Tc (cG s.x) (Yj s.x) a b d ω hs.x (Je _ _) ha hb hd hdp) (Ae 12 (Ev ((6:Int)-(s.x.length:Int)) ((6-s.x.length:Nat):Int) (Ct (Gf d (6-s.x.length) hd.1 hd.2 ω (λj hj=>Ei hd ω)) (Ct (Zf (Fl (mY s.x a b d) (cG s.x)) (mY s.x a b d) (d^(6-s.x.length)) (by have:=Hk (mY s.x a b d) (cG s.x);omega) (λi _=>(iT hs.x hx6 ha hb hd i).fit ω) (Je _ _) (Ei hd ω) (λi _=>(eO hs.x hx6 ha hb hd i).fit ω)) (Ae 3 (Cb (.ptr 1 0) .none (Bu 203 (.tmp 8) (.tmp 36) κ underlying203 1 0 1 0 0 κ κ sizeOf202 δ ω δ) (Ae 5 (Mt (.int .i64 1) (.int .i64 1) (Ae 17 (Cb (Bf s.y) .none (Dk 147 (.tmp 14) (.tmp 15) κ underlying147 1 sizeOf23 1 false isAgg23 [Bf s.x,Bf s.y,Bf s.z] 1 κ κ ω δ β δ (Bf s.y) κ) (Ae 7 (Ct (Wc s.y hy0 ω hs.y) (Ae 11 (Ct (Gl a ha.1 ha.2) (Ae 1 (Ct (Gl b hb.1 hb.2) (Ae 1 (Ct (Gl d hd.1 hd.2) (Ct (Tc (cG s.y) (Yj s.y) a b d ω hs.y (Je _ _) ha hb hd hdp) (Ae 12 (Ev ((6:Int)-(s.y.length:Int)) ((6-s.y.length:Nat):Int) (Ct (Gf d (6-s.y.length) hd.1 hd.2 ω (λj hj=>Ei hd ω)) (Ct (Zf (Fl (mY s.y a b d) (cG s.y)) (mY s.y a b d) (d^(6-s.y.length)) (by have:=Hk (mY s.y a b d) (cG s.y);omega) (λi _=>(iT hs.y hy6 ha hb hd i).fit ω) (Je _ _) (Ei hd ω) (λi _=>(eO hs.y hy6 ha hb hd i).fit ω)) (Ae 3 (Cb (.ptr 1 1) .none (Bu 203 (.tmp 8) (.tmp 36) κ underlying203 1 0 1 1 1 κ κ sizeOf202 δ ω δ) (Ae 5 (Mt (.int .i64 2) (.int .i64 2) (Ae 17 (Cb (Bf s.z) .none (Dk 147 (.tmp 14) (.tmp 15) κ underlying147 1 sizeOf23 2 false isAgg23 [Bf s.x,Bf s.y,Bf s.z] 2 κ κ ω δ β δ (Bf s.z) κ) (Ae 7 (Ct (Wc s.z hz0 ω hs.z) (Ae 11 (Ct (Gl a ha.1 ha.2) (Ae 1 (Ct (Gl b hb.1 hb.2) (Ae 1 (Ct (Gl d hd.1 hd.2) (Ct (Tc (cG s.z) (Yj s.z) a b d ω hs.z (Je _ _) ha hb hd hdp) (Ae 12 (Ev ((6:Int)-(s.z.length:Int)) ((6-s.z.length:Nat):Int) (Ct (Gf d (6-s.z.length) hd.1 hd.2 ω (λj hj=>Ei hd ω)) (Ct (Zf (Fl (mY s.z a b d) (cG s.z)) (mY s.z a b d) (d^(6-s.z.length)) (by have:=Hk (mY s.z a b d) (cG s.z);omega) (λi _=>(iT hs.z hz6 ha hb hd i).fit ω) (Je _ _) (Ei hd ω) (λi _=>(eO hs.z hz6 ha hb hd i).fit ω)) (Ae 3 (Cb (.ptr 1 2) .none (Bu 203 (.tmp 8) (.tmp 36) κ underlying203 1 0 1 2 2 κ κ sizeOf202 δ ω δ) (Ae 5 (Mt (.int .i64 3) (.int .i64 3) (Ae 22 (Gc))))))))))))))))))))))))))))))))))))))))))))))))))))))))))))))
def gF (c:Nat->Int) (g:Int):Nat->Int
 |0=>g
 |k+1=>(Nat.gcd (gF c g k).natAbs (c k).natAbs:Int)
theorem tA {c:Nat->Int} {g:Int} {n:Nat} (hg:Bd 1000 g) (hc:∀i,i<n->Bd 1000 (c i)):∀k,k<=n->Bd 1000 (gF c g k)
 |0,_=>hg
 |k+1,h=>(tA hg hc k ω).gcd (hc k ω)
theorem iK {c:Nat->Int} {g:Int} (hg:0<g):∀k,0<gF c g k
 |0=>hg
 |k+1=>by
  have h1:=iK (c:=c) hg k
  have:0<Nat.gcd (gF c g k).natAbs (c k).natAbs:=Nat.gcd_pos_of_pos_left _ ω
  rw[gF];omega
def iR (z:Int):Int:=if -9223372036854775808<=z/\z<=9223372036854775807 then z else 0
def iE (z:Int):Int:=if -9223372036854775808<=z/\z<=9223372036854775807 then 0 else 3
theorem AeT {z:Int} (h:Co z):iR z=z:=if_pos h
theorem Mh (z:Int) (h:Ff z):AF Tryz.prog 68 [WA z] (.lit (.tuple #[.int .i64 (iR z),.int .i64 (iE z)])):=Ja (vs:=[_]) λw=>by
 unfold iR iE
 by_cases h0: -9223372036854775808<=z/\z<=9223372036854775807
 rw[if_pos h0,if_pos h0];exact AbS z w h0.1 h0.2
 rw[if_neg h0,if_neg h0];exact oJ z w h h0
theorem kU (x y:Int) (hx:Ff x) (hy:Ff y):AF Tryz.prog 147 [WA x,WA y] (.int (x-y).sign):=Ja (vs:=[_,_]) λw=>Vw x y w hx hy
def Jb (n:Nat) (c:Nat->Int) (g:Int) (i:Nat):Int:=if i<n then iR (c i/g) else 0
def gM (nx ny nz:Nat) (cx cy cz:Nat->Int) (o:Int):Int:=gF cz (gF cy (gF cx o nx) ny) nz
abbrev sB:Ci:= .box 81 [.int 0,.int 0,.int 0,.lit (.slice none 0 0),.lit (.slice none 0 0),.lit (.slice none 0 0)]
def Xp (f t:Int) (nx ny nz:Nat) (cx cy cz:Nat->Int) (o:Int):AV:=if (0:Int)<(o/gM nx ny nz cx cy cz o-4294967296).sign then .lit (.tuple #[.agg #[.int .i64 f,.int .i64 t,.int .i64 0,.slice none 0 0,.slice none 0 0,.slice none 0 0],.bool false]) else .tup [.agg [.int f,.int t,.int (iR (o/gM nx ny nz cx cy cz o)),.sl 1 (max nx 1) (λxi=> .int (Jb nx cx (gM nx ny nz cx cy cz o) xi)),.sl 1 (max ny 1) (λxi=> .int (Jb ny cy (gM nx ny nz cx cy cz o) xi)),.sl 1 (max nz 1) (λxi=> .int (Jb nz cz (gM nx ny nz cx cy cz o) xi))],.bool true]
theorem Ach (f t:Int) (nx ny nz:Nat) (cx cy cz:Nat->Int) (o:Int) (hnx:nx<=6) (hny:ny<=6) (hnz:nz<=6) (hx:∀i,i<nx->Bd 1000 (cx i)) (hy:∀i,i<ny->Bd 1000 (cy i)) (hz:∀i,i<nz->Bd 1000 (cz i)) (bo:Bd 1000 o) (ho:0<o):AF Tryz.prog 140 [.int f,.int t,.agg [Bb nx cx,Bb ny cy,Bb nz cz],WA o] (Xp f t nx ny nz cx cy cz o):=by
 have b0:=bo
 have bx:=tA b0 hx
 have b1:=bx nx (Nat.le_refl _)
 have bY:=tA b1 hy
 have b2:=bY ny (Nat.le_refl _)
 have bz:=tA b2 hz
 have bG:Bd 1000 (gM nx ny nz cx cy cz o):=bz nz (Nat.le_refl _)
 have pG:0<gM nx ny nz cx cy cz o:=iK (iK (iK ho nx) ny) nz
 have hk:=Gl 4294967296 δ δ
 have h32:Ff 4294967296:=Iz δ δ
 refine Cc func140 rfl λB D0 hA0=>?_
 refine Ae 23 (yT 3 (Ae 13 (Cb (Bb nx cx) .none (Dk 203 (.tmp 24) (.tmp 25) κ underlying203 1 sizeOf202 0 false isAgg202 [Bb nx cx,Bb ny cy,Bb nz cz] 0 κ κ ω δ β δ (Bb nx cx) κ) (Ae 11 (yK (keep:=[0,1,6,7,8,10,24,25,28,29,30]) nx (λk=>⟨[(0,.int f),(1,.int t),(6,.ptr 0 0),(7,.ptr 1 0),(8,.ptr 2 0),(10,.ptr 3 0),(24,.agg [Bb nx cx,Bb ny cy,Bb nz cz]),(25,.int 0),(28,Bb nx cx),(29,.int (nx:Int)),(30,.int (k:Int))],[(0,.box 203 [Bb nx cx,Bb ny cy,Bb nz cz]),(1,wB o),(2,sB),(3,wB (gF cx o k))],4,98⟩) (λk hk J1 hJ1=>?_) ?_)))))
 ·
  exact Ae 3 (Ic 31 (decide ((k:Int)<(nx:Int))) true (decide_eq_true ω) (Ae 10 (Ga k nx (Ae 8 (Ct (Rw _ _ ((bx k ω).fit ω) ((hx k ω).fit ω)) (Ae 5 (Ev ((k:Int)+1) ((k+1:Nat):Int) (Ae 2 (Gk [0,1,6,7,8,10,24,25,28,29,30] [(0,0),(1,1),(2,2),(3,3)] 4 0 hA0 [] trivial hJ1)))))))))
 ·
  refine Ae 3 (Ic 31 (decide ((nx:Int)<(nx:Int))) false (decide_eq_false ω) (Ae 11 (Mt (.int .i64 1) (.int .i64 1) (Ae 16 (Cb (Bb ny cy) .none (Dk 203 (.tmp 24) (.tmp 25) κ underlying203 1 sizeOf202 1 false isAgg202 [Bb nx cx,Bb ny cy,Bb nz cz] 1 κ κ ω δ β δ (Bb ny cy) κ) (Ae 11 (yK (keep:=[0,1,6,7,8,10,24,25,28,29,30]) ny (λk=>⟨[(0,.int f),(1,.int t),(6,.ptr 0 0),(7,.ptr 1 0),(8,.ptr 2 0),(10,.ptr 3 0),(24,.agg [Bb nx cx,Bb ny cy,Bb nz cz]),(25,.int 1),(28,Bb ny cy),(29,.int (ny:Int)),(30,.int (k:Int))],[(0,.box 203 [Bb nx cx,Bb ny cy,Bb nz cz]),(1,wB o),(2,sB),(3,wB (gF cy (gF cx o nx) k))],4,98⟩) (λk hk J2 hJ2=>?_) ?_)))))))
  ·
   exact Ae 3 (Ic 31 (decide ((k:Int)<(ny:Int))) true (decide_eq_true ω) (Ae 10 (Ga k ny (Ae 8 (Ct (Rw _ _ ((bY k ω).fit ω) ((hy k ω).fit ω)) (Ae 5 (Ev ((k:Int)+1) ((k+1:Nat):Int) (Ae 2 (Gk [0,1,6,7,8,10,24,25,28,29,30] [(0,0),(1,1),(2,2),(3,3)] 4 0 hA0 [] trivial hJ2)))))))))
  ·
   refine Ae 3 (Ic 31 (decide ((ny:Int)<(ny:Int))) false (decide_eq_false ω) (Ae 11 (Mt (.int .i64 2) (.int .i64 2) (Ae 16 (Cb (Bb nz cz) .none (Dk 203 (.tmp 24) (.tmp 25) κ underlying203 1 sizeOf202 2 false isAgg202 [Bb nx cx,Bb ny cy,Bb nz cz] 2 κ κ ω δ β δ (Bb nz cz) κ) (Ae 11 (yK (keep:=[0,1,6,7,8,10,24,25,28,29,30]) nz (λk=>⟨[(0,.int f),(1,.int t),(6,.ptr 0 0),(7,.ptr 1 0),(8,.ptr 2 0),(10,.ptr 3 0),(24,.agg [Bb nx cx,Bb ny cy,Bb nz cz]),(25,.int 2),(28,Bb nz cz),(29,.int (nz:Int)),(30,.int (k:Int))],[(0,.box 203 [Bb nx cx,Bb ny cy,Bb nz cz]),(1,wB o),(2,sB),(3,wB (gF cz (gF cy (gF cx o nx) ny) k))],4,98⟩) (λk hk J3 hJ3=>?_) ?_)))))))
   ·
    exact Ae 3 (Ic 31 (decide ((k:Int)<(nz:Int))) true (decide_eq_true ω) (Ae 10 (Ga k nz (Ae 8 (Ct (Rw _ _ ((bz k ω).fit ω) ((hz k ω).fit ω)) (Ae 5 (Ev ((k:Int)+1) ((k+1:Nat):Int) (Ae 2 (Gk [0,1,6,7,8,10,24,25,28,29,30] [(0,0),(1,1),(2,2),(3,3)] 4 0 hA0 [] trivial hJ3)))))))))
   ·
    refine Ae 3 (Ic 31 (decide ((nz:Int)<(nz:Int))) false (decide_eq_false ω) (Ae 11 (Mt (.int .i64 3) (.int .i64 3) (Ae 28 (Ct (Jv _ _ (bo.fit ω) (bG.fit ω) ω) (Ae 6 (Jf [(1,_,.none),(2,_,.none)] [6,8,10,15,16,48] ⟨Fx hk,Fx (kU (o/(gM nx ny nz cx cy cz o)) 4294967296 ((bo.div _).fit ω) h32),trivial⟩ (Ae 1 (Fd 48 ((0:Int)<(o/gM nx ny nz cx cy cz o-4294967296).sign) (λhx1 hx1d=>?_) (λhx1 hx1d=>?_))))))))))
    ·
     exact Ae 10 (Fa (.lit (.tuple #[.agg #[.int .i64 f,.int .i64 t,.int .i64 0,.slice none 0 0,.slice none 0 0,.slice none 0 0],.bool false])) (show (.lit _:AV)=_ by unfold Xp;rw[if_pos hx1d]))
    ·
     refine Ae 6 (Ct (Mh (o/(gM nx ny nz cx cy cz o)) ((bo.div _).fit ω)) (Ae 18 (yT 3 (Ae 9 (vjn ⟨[(6,.ptr 0 0),(8,.ptr 2 0),(10,.ptr 3 0),(15,.ptr 4 0),(59,.agg [.ptr 4 3,.ptr 4 4,.ptr 4 5]),(60,.int 0)],[(0,.box 203 [Bb nx cx,Bb ny cy,Bb nz cz]),(1,wB o),(2,sB),(3,wB (gM nx ny nz cx cy cz o)),(4,.box 81 [.int f,.int t,.int (iR (o/(gM nx ny nz cx cy cz o))),.sl 1 (max nx 1) (λxi=> .int (Jb nx cx (gM nx ny nz cx cy cz o) xi)),.lit (.slice none 0 0),.lit (.slice none 0 0)]),(5,wB (o/(gM nx ny nz cx cy cz o)))],30,98⟩ ?_ (λJ4 hJ4=>?_))))))
     ·
      refine Ae 1 (Mt (.int .i64 1) (.int .i64 1) (Ae 12 (vjn ⟨[(6,.ptr 0 0),(8,.ptr 2 0),(10,.ptr 3 0),(15,.ptr 4 0),(59,.agg [.ptr 4 3,.ptr 4 4,.ptr 4 5]),(60,.int 1)],[(0,.box 203 [Bb nx cx,Bb ny cy,Bb nz cz]),(1,wB o),(2,sB),(3,wB (gM nx ny nz cx cy cz o)),(4,.box 81 [.int f,.int t,.int (iR (o/(gM nx ny nz cx cy cz o))),.sl 1 (max nx 1) (λxi=> .int (Jb nx cx (gM nx ny nz cx cy cz o) xi)),.sl 1 (max ny 1) (λxi=> .int (Jb ny cy (gM nx ny nz cx cy cz o) xi)),.lit (.slice none 0 0)]),(5,wB (o/(gM nx ny nz cx cy cz o)))],32,98⟩ ?_ (λJ5 hJ5=>?_))))
      ·
       refine Ae 1 (Mt (.int .i64 2) (.int .i64 2) (Ae 12 (vjn ⟨[(6,.ptr 0 0),(8,.ptr 2 0),(10,.ptr 3 0),(15,.ptr 4 0),(59,.agg [.ptr 4 3,.ptr 4 4,.ptr 4 5]),(60,.int 2)],[(0,.box 203 [Bb nx cx,Bb ny cy,Bb nz cz]),(1,wB o),(2,sB),(3,wB (gM nx ny nz cx cy cz o)),(4,.box 81 [.int f,.int t,.int (iR (o/(gM nx ny nz cx cy cz o))),.sl 1 (max nx 1) (λxi=> .int (Jb nx cx (gM nx ny nz cx cy cz o) xi)),.sl 1 (max ny 1) (λxi=> .int (Jb ny cy (gM nx ny nz cx cy cz o) xi)),.sl 1 (max nz 1) (λxi=> .int (Jb nz cz (gM nx ny nz cx cy cz o) xi))]),(5,wB (o/(gM nx ny nz cx cy cz o)))],34,98⟩ ?_ (λJ6 hJ6=>?_))))
       ·
        exact Ae 1 (Mt (.int .i64 3) (.int .i64 3) (Ae 23 (Fa (.tup [.agg [.int f,.int t,.int (iR (o/(gM nx ny nz cx cy cz o))),.sl 1 (max nx 1) (λxi=> .int (Jb nx cx (gM nx ny nz cx cy cz o) xi)),.sl 1 (max ny 1) (λxi=> .int (Jb ny cy (gM nx ny nz cx cy cz o) xi)),.sl 1 (max nz 1) (λxi=> .int (Jb nz cz (gM nx ny nz cx cy cz o) xi))],.bool true]) (show (.tup [.agg [_,_,_,_,_,_],_]:AV)=_ by unfold Xp;rw[if_neg hx1d]))))
       ·
        refine Ae 4 (Cb (.ptr 4 5) .none (Dk 222 (.tmp 59) (.tmp 60) κ underlying222 1 sizeOf221 2 false isAgg221 [.ptr 4 3,.ptr 4 4,.ptr 4 5] 2 κ κ ω δ β δ (.ptr 4 5) κ) (Ae 8 (Cb (.ptr 0 2) .none (Bu 203 (.tmp 6) (.tmp 64) κ underlying203 0 0 1 2 2 κ κ sizeOf202 δ ω δ) (Ae 6 (fG [6,8,10,15,18,59,60,66,67,68] (λm s=>∃k,k<=nz/\m=nz-k/\True/\((k=0/\s=⟨[(6,.ptr 0 0),(8,.ptr 2 0),(10,.ptr 3 0),(15,.ptr 4 0),(18,.ptr 4 5),(59,.agg [.ptr 4 3,.ptr 4 4,.ptr 4 5]),(60,.int 2),(66,Bb nz cz),(67,.int (nz:Int)),(68,.int ((0:Nat):Int))],[(0,.box 203 [Bb nx cx,Bb ny cy,Bb nz cz]),(1,wB o),(2,sB),(3,wB (gM nx ny nz cx cy cz o)),(4,.box 81 [.int f,.int t,.int (iR (o/(gM nx ny nz cx cy cz o))),.sl 1 (max nx 1) (λxi=> .int (Jb nx cx (gM nx ny nz cx cy cz o) xi)),.sl 1 (max ny 1) (λxi=> .int (Jb ny cy (gM nx ny nz cx cy cz o) xi)),.lit (.slice none 0 0)]),(5,wB (o/(gM nx ny nz cx cy cz o)))],32,98⟩)\/(0<k/\s=⟨[(6,.ptr 0 0),(8,.ptr 2 0),(10,.ptr 3 0),(15,.ptr 4 0),(18,.ptr 4 5),(59,.agg [.ptr 4 3,.ptr 4 4,.ptr 4 5]),(60,.int 2),(66,Bb nz cz),(67,.int (nz:Int)),(68,.int (k:Int))],[(0,.box 203 [Bb nx cx,Bb ny cy,Bb nz cz]),(1,wB o),(2,sB),(3,wB (gM nx ny nz cx cy cz o)),(4,.box 81 [.int f,.int t,.int (iR (o/(gM nx ny nz cx cy cz o))),.sl 1 (max nx 1) (λxi=> .int (Jb nx cx (gM nx ny nz cx cy cz o) xi)),.sl 1 (max ny 1) (λxi=> .int (Jb ny cy (gM nx ny nz cx cy cz o) xi)),.osl 20 1 k]),(5,wB (o/(gM nx ny nz cx cy cz o))),(20,.vec 3 1 k (λxi=> .int (Jb nz cz (gM nx ny nz cx cy cz o) xi)))],21,98⟩))) nz ⟨0,Nat.zero_le _,rfl,trivial,.inl ⟨rfl,κ⟩⟩ ?_)))))
        rintro _ _ ⟨k,hkn,rfl,hFk,(⟨hk0,rfl⟩|⟨hk0,rfl⟩)⟩ J7 hJ7
        ·
         subst hk0
         refine Ae 6 (Fd 69 (((0:Nat):Int)<(nz:Int)) (λhx2 hx2d=>?_) (λhx2 hx2d=>?_))
         ·
          exact Ae 7 (Ga 0 nz (Ae 9 (Ct (Jv (cz 0) (gM nx ny nz cx cy cz o) ((hz _ ω).fit ω) (bG.fit ω) ω) (Ct (Mh (cz 0/(gM nx ny nz cx cy cz o)) (((hz _ ω).div _).fit ω)) (Ae 13 (Cb (.osl 33 1 1) (.new 33 (.vec 3 1 1 (λ_=> .int (iR (cz 0/(gM nx ny nz cx cy cz o)))))) (Aj 23 1 #[(0,(.tmp 83))] κ underlying23 1 sizeOf3 _ zeroValue3 κ β β β 33 [.int (iR (cz 0/(gM nx ny nz cx cy cz o)))] κ (λ_=> .int (iR (cz 0/(gM nx ny nz cx cy cz o)))) κ) (Cb (.osl 34 1 1) (.newr 33 34 (.vec 3 1 1 (λxi=> .int (Jb nz cz (gM nx ny nz cx cy cz o) xi)))) (Cf (.tmp 82) (.tmp 84) 23 κ underlying23 1 8 (.int .i64 0) κ κ δ 1 ω (λ_=> .int (iR (cz 0/(gM nx ny nz cx cy cz o)))) (λxi=> .int (Jb nz cz (gM nx ny nz cx cy cz o) xi)) 34 (λi hi=>by(obtain rfl:i=0:=(ω));show AV.int (Jb _ _ _ _)=_;rw[Jb,if_pos ω]<;>rfl) (λi hi j hj=>by obtain rfl:j=0:=(ω);rfl) (by unfold maxLen;omega) ω κ 33 3 κ κ) (Ae 6 (Ev (((0:Nat):Int)+1) ((0+1:Nat):Int) (Ae 2 (Gk [6,8,10,15,18,59,60,66,67,68] [(0,0),(1,1),(2,2),(3,3),(4,4),(5,5),(34,20)] 21 0 hA0 [(3,1,1,(λ_=> .int (iR (cz 0/(gM nx ny nz cx cy cz o))))),(3,1,1,(λxi=> .int (Jb nz cz (gM nx ny nz cx cy cz o) xi)))] ⟨(Gp λ_ _=>rfl),(Gp λ_ _=>rfl),trivial⟩ (hJ7 _ _ (by omega:nz-(0+1)<nz-0) ⟨0+1,ω,rfl,trivial,.inr ⟨Nat.succ_pos _,rfl⟩⟩))))))))))))
         ·
          exact Ae 6 (yM 33 (Ae 12 (Cb (.osl 33 1 1) (.new 33 (.vec 3 1 1 (λ_=> .int 0))) (Aj 23 1 #[(0,(.const (.int .i64 0)))] κ underlying23 1 sizeOf3 _ zeroValue3 κ β β β 33 [.int 0] κ (λ_=> .int 0) κ) (Yc 33 [94] 3 1 1 (λ_=> .int 0) (Gp λ_ _=>rfl) (Ae 4 (Ob [6,8,10,15,59,60] hJ6 (hs:=(by rw[show nz=0 by omega];kernel_rfl))))))))
        ·
         refine Ae 6 (Fd 69 ((k:Int)<(nz:Int)) (λhx3 hx3d=>?_) (λhx3 hx3d=>?_))
         ·
          exact Ae 7 (Ga k nz (Ae 9 (Ct (Jv (cz k) (gM nx ny nz cx cy cz o) ((hz _ ω).fit ω) (bG.fit ω) ω) (Ct (Mh (cz k/(gM nx ny nz cx cy cz o)) (((hz _ ω).div _).fit ω)) (Ae 13 (Cb (.osl 22 1 1) (.new 22 (.vec 3 1 1 (λ_=> .int (iR (cz k/(gM nx ny nz cx cy cz o)))))) (Aj 23 1 #[(0,(.tmp 83))] κ underlying23 1 sizeOf3 _ zeroValue3 κ β β β 22 [.int (iR (cz k/(gM nx ny nz cx cy cz o)))] κ (λ_=> .int (iR (cz k/(gM nx ny nz cx cy cz o)))) κ) (Cb (.osl 23 1 (k+1)) (.grow2 20 22 23 (.vec 3 1 (k+1) (λxi=> .int (Jb nz cz (gM nx ny nz cx cy cz o) xi)))) (Cu (.tmp 82) (.tmp 84) 23 κ underlying23 1 8 (.int .i64 0) κ κ δ k 1 ω (λxi=> .int (Jb nz cz (gM nx ny nz cx cy cz o) xi)) (λ_=> .int (iR (cz k/(gM nx ny nz cx cy cz o)))) (λxi=> .int (Jb nz cz (gM nx ny nz cx cy cz o) xi)) 23 ω (by unfold maxLen;omega) (λi hi=>rfl) (λi hi=>by(obtain rfl:i=0:=(ω));show AV.int (Jb _ _ _ _)=_;rw[Jb,if_pos ω]<;>rfl) (λi hi j hj=>by obtain rfl:j=0:=(ω);rfl) 20 κ κ 22 3 κ κ) (Ae 6 (Ev ((k:Int)+1) ((k+1:Nat):Int) (Ae 2 (Gk [6,8,10,15,18,59,60,66,67,68] [(0,0),(1,1),(2,2),(3,3),(4,4),(5,5),(23,20)] 21 0 hA0 [(3,1,1,(λ_=> .int (iR (cz k/(gM nx ny nz cx cy cz o))))),(3,1,k+1,(λxi=> .int (Jb nz cz (gM nx ny nz cx cy cz o) xi)))] ⟨(Gp λ_ _=>rfl),(Gp λ_ _=>rfl),trivial⟩ (hJ7 _ _ (by omega:nz-(k+1)<nz-k) ⟨k+1,ω,rfl,trivial,.inr ⟨Nat.succ_pos _,rfl⟩⟩))))))))))))
         ·
          refine Ae 6 (rL 20 4 5 3 1 k (λxi=> .int (Jb nz cz (gM nx ny nz cx cy cz o) xi)) (Gp λ_ _=>rfl) ?_)
          have hke:k=max nz 1:=by omega
          subst hke
          exact yM 34 (Ae 7 (Ic 92 (decide (((max nz 1:Nat):Int)=0)) false (decide_eq_false ω) (Ae 5 (Ob [6,8,10,15,59,60] hJ6))))
      ·
       refine Ae 4 (Cb (.ptr 4 4) .none (Dk 222 (.tmp 59) (.tmp 60) κ underlying222 1 sizeOf221 1 false isAgg221 [.ptr 4 3,.ptr 4 4,.ptr 4 5] 1 κ κ ω δ β δ (.ptr 4 4) κ) (Ae 8 (Cb (.ptr 0 1) .none (Bu 203 (.tmp 6) (.tmp 64) κ underlying203 0 0 1 1 1 κ κ sizeOf202 δ ω δ) (Ae 6 (fG [6,8,10,15,18,59,60,66,67,68] (λm s=>∃k,k<=ny/\m=ny-k/\True/\((k=0/\s=⟨[(6,.ptr 0 0),(8,.ptr 2 0),(10,.ptr 3 0),(15,.ptr 4 0),(18,.ptr 4 4),(59,.agg [.ptr 4 3,.ptr 4 4,.ptr 4 5]),(60,.int 1),(66,Bb ny cy),(67,.int (ny:Int)),(68,.int ((0:Nat):Int))],[(0,.box 203 [Bb nx cx,Bb ny cy,Bb nz cz]),(1,wB o),(2,sB),(3,wB (gM nx ny nz cx cy cz o)),(4,.box 81 [.int f,.int t,.int (iR (o/(gM nx ny nz cx cy cz o))),.sl 1 (max nx 1) (λxi=> .int (Jb nx cx (gM nx ny nz cx cy cz o) xi)),.lit (.slice none 0 0),.lit (.slice none 0 0)]),(5,wB (o/(gM nx ny nz cx cy cz o)))],30,98⟩)\/(0<k/\s=⟨[(6,.ptr 0 0),(8,.ptr 2 0),(10,.ptr 3 0),(15,.ptr 4 0),(18,.ptr 4 4),(59,.agg [.ptr 4 3,.ptr 4 4,.ptr 4 5]),(60,.int 1),(66,Bb ny cy),(67,.int (ny:Int)),(68,.int (k:Int))],[(0,.box 203 [Bb nx cx,Bb ny cy,Bb nz cz]),(1,wB o),(2,sB),(3,wB (gM nx ny nz cx cy cz o)),(4,.box 81 [.int f,.int t,.int (iR (o/(gM nx ny nz cx cy cz o))),.sl 1 (max nx 1) (λxi=> .int (Jb nx cx (gM nx ny nz cx cy cz o) xi)),.osl 20 1 k,.lit (.slice none 0 0)]),(5,wB (o/(gM nx ny nz cx cy cz o))),(20,.vec 3 1 k (λxi=> .int (Jb ny cy (gM nx ny nz cx cy cz o) xi)))],21,98⟩))) ny ⟨0,Nat.zero_le _,rfl,trivial,.inl ⟨rfl,κ⟩⟩ ?_)))))
       rintro _ _ ⟨k,hkn,rfl,hFk,(⟨hk0,rfl⟩|⟨hk0,rfl⟩)⟩ J8 hJ8
       ·
        subst hk0
        refine Ae 6 (Fd 69 (((0:Nat):Int)<(ny:Int)) (λhx4 hx4d=>?_) (λhx4 hx4d=>?_))
        ·
         exact Ae 7 (Ga 0 ny (Ae 9 (Ct (Jv (cy 0) (gM nx ny nz cx cy cz o) ((hy _ ω).fit ω) (bG.fit ω) ω) (Ct (Mh (cy 0/(gM nx ny nz cx cy cz o)) (((hy _ ω).div _).fit ω)) (Ae 13 (Cb (.osl 31 1 1) (.new 31 (.vec 3 1 1 (λ_=> .int (iR (cy 0/(gM nx ny nz cx cy cz o)))))) (Aj 23 1 #[(0,(.tmp 83))] κ underlying23 1 sizeOf3 _ zeroValue3 κ β β β 31 [.int (iR (cy 0/(gM nx ny nz cx cy cz o)))] κ (λ_=> .int (iR (cy 0/(gM nx ny nz cx cy cz o)))) κ) (Cb (.osl 32 1 1) (.newr 31 32 (.vec 3 1 1 (λxi=> .int (Jb ny cy (gM nx ny nz cx cy cz o) xi)))) (Cf (.tmp 82) (.tmp 84) 23 κ underlying23 1 8 (.int .i64 0) κ κ δ 1 ω (λ_=> .int (iR (cy 0/(gM nx ny nz cx cy cz o)))) (λxi=> .int (Jb ny cy (gM nx ny nz cx cy cz o) xi)) 32 (λi hi=>by(obtain rfl:i=0:=(ω));show AV.int (Jb _ _ _ _)=_;rw[Jb,if_pos ω]<;>rfl) (λi hi j hj=>by obtain rfl:j=0:=(ω);rfl) (by unfold maxLen;omega) ω κ 31 3 κ κ) (Ae 6 (Ev (((0:Nat):Int)+1) ((0+1:Nat):Int) (Ae 2 (Gk [6,8,10,15,18,59,60,66,67,68] [(0,0),(1,1),(2,2),(3,3),(4,4),(5,5),(32,20)] 21 0 hA0 [(3,1,1,(λ_=> .int (iR (cy 0/(gM nx ny nz cx cy cz o))))),(3,1,1,(λxi=> .int (Jb ny cy (gM nx ny nz cx cy cz o) xi)))] ⟨(Gp λ_ _=>rfl),(Gp λ_ _=>rfl),trivial⟩ (hJ8 _ _ (by omega:ny-(0+1)<ny-0) ⟨0+1,ω,rfl,trivial,.inr ⟨Nat.succ_pos _,rfl⟩⟩))))))))))))
        ·
         exact Ae 6 (yM 31 (Ae 12 (Cb (.osl 31 1 1) (.new 31 (.vec 3 1 1 (λ_=> .int 0))) (Aj 23 1 #[(0,(.const (.int .i64 0)))] κ underlying23 1 sizeOf3 _ zeroValue3 κ β β β 31 [.int 0] κ (λ_=> .int 0) κ) (Yc 31 [94] 3 1 1 (λ_=> .int 0) (Gp λ_ _=>rfl) (Ae 4 (Ob [6,8,10,15,59,60] hJ5 (hs:=(by rw[show ny=0 by omega];kernel_rfl))))))))
       ·
        refine Ae 6 (Fd 69 ((k:Int)<(ny:Int)) (λhx5 hx5d=>?_) (λhx5 hx5d=>?_))
        ·
         exact Ae 7 (Ga k ny (Ae 9 (Ct (Jv (cy k) (gM nx ny nz cx cy cz o) ((hy _ ω).fit ω) (bG.fit ω) ω) (Ct (Mh (cy k/(gM nx ny nz cx cy cz o)) (((hy _ ω).div _).fit ω)) (Ae 13 (Cb (.osl 22 1 1) (.new 22 (.vec 3 1 1 (λ_=> .int (iR (cy k/(gM nx ny nz cx cy cz o)))))) (Aj 23 1 #[(0,(.tmp 83))] κ underlying23 1 sizeOf3 _ zeroValue3 κ β β β 22 [.int (iR (cy k/(gM nx ny nz cx cy cz o)))] κ (λ_=> .int (iR (cy k/(gM nx ny nz cx cy cz o)))) κ) (Cb (.osl 23 1 (k+1)) (.grow2 20 22 23 (.vec 3 1 (k+1) (λxi=> .int (Jb ny cy (gM nx ny nz cx cy cz o) xi)))) (Cu (.tmp 82) (.tmp 84) 23 κ underlying23 1 8 (.int .i64 0) κ κ δ k 1 ω (λxi=> .int (Jb ny cy (gM nx ny nz cx cy cz o) xi)) (λ_=> .int (iR (cy k/(gM nx ny nz cx cy cz o)))) (λxi=> .int (Jb ny cy (gM nx ny nz cx cy cz o) xi)) 23 ω (by unfold maxLen;omega) (λi hi=>rfl) (λi hi=>by(obtain rfl:i=0:=(ω));show AV.int (Jb _ _ _ _)=_;rw[Jb,if_pos ω]<;>rfl) (λi hi j hj=>by obtain rfl:j=0:=(ω);rfl) 20 κ κ 22 3 κ κ) (Ae 6 (Ev ((k:Int)+1) ((k+1:Nat):Int) (Ae 2 (Gk [6,8,10,15,18,59,60,66,67,68] [(0,0),(1,1),(2,2),(3,3),(4,4),(5,5),(23,20)] 21 0 hA0 [(3,1,1,(λ_=> .int (iR (cy k/(gM nx ny nz cx cy cz o))))),(3,1,k+1,(λxi=> .int (Jb ny cy (gM nx ny nz cx cy cz o) xi)))] ⟨(Gp λ_ _=>rfl),(Gp λ_ _=>rfl),trivial⟩ (hJ8 _ _ (by omega:ny-(k+1)<ny-k) ⟨k+1,ω,rfl,trivial,.inr ⟨Nat.succ_pos _,rfl⟩⟩))))))))))))
        ·
         refine Ae 6 (rL 20 4 4 3 1 k (λxi=> .int (Jb ny cy (gM nx ny nz cx cy cz o) xi)) (Gp λ_ _=>rfl) ?_)
         have hke:k=max ny 1:=by omega
         subst hke
         exact yM 32 (Ae 7 (Ic 92 (decide (((max ny 1:Nat):Int)=0)) false (decide_eq_false ω) (Ae 5 (Ob [6,8,10,15,59,60] hJ5))))
     ·
      refine Ae 4 (Cb (.ptr 4 3) .none (Dk 222 (.tmp 59) (.tmp 60) κ underlying222 1 sizeOf221 0 false isAgg221 [.ptr 4 3,.ptr 4 4,.ptr 4 5] 0 κ κ ω δ β δ (.ptr 4 3) κ) (Ae 8 (Cb (.ptr 0 0) .none (Bu 203 (.tmp 6) (.tmp 64) κ underlying203 0 0 1 0 0 κ κ sizeOf202 δ ω δ) (Ae 6 (fG [6,8,10,15,18,59,60,66,67,68] (λm s=>∃k,k<=nx/\m=nx-k/\True/\((k=0/\s=⟨[(6,.ptr 0 0),(8,.ptr 2 0),(10,.ptr 3 0),(15,.ptr 4 0),(18,.ptr 4 3),(59,.agg [.ptr 4 3,.ptr 4 4,.ptr 4 5]),(60,.int 0),(66,Bb nx cx),(67,.int (nx:Int)),(68,.int ((0:Nat):Int))],[(0,.box 203 [Bb nx cx,Bb ny cy,Bb nz cz]),(1,wB o),(2,sB),(3,wB (gM nx ny nz cx cy cz o)),(4,.box 81 [.int f,.int t,.int (iR (o/(gM nx ny nz cx cy cz o))),.lit (.slice none 0 0),.lit (.slice none 0 0),.lit (.slice none 0 0)]),(5,wB (o/(gM nx ny nz cx cy cz o)))],6,98⟩)\/(0<k/\s=⟨[(6,.ptr 0 0),(8,.ptr 2 0),(10,.ptr 3 0),(15,.ptr 4 0),(18,.ptr 4 3),(59,.agg [.ptr 4 3,.ptr 4 4,.ptr 4 5]),(60,.int 0),(66,Bb nx cx),(67,.int (nx:Int)),(68,.int (k:Int))],[(0,.box 203 [Bb nx cx,Bb ny cy,Bb nz cz]),(1,wB o),(2,sB),(3,wB (gM nx ny nz cx cy cz o)),(4,.box 81 [.int f,.int t,.int (iR (o/(gM nx ny nz cx cy cz o))),.osl 20 1 k,.lit (.slice none 0 0),.lit (.slice none 0 0)]),(5,wB (o/(gM nx ny nz cx cy cz o))),(20,.vec 3 1 k (λxi=> .int (Jb nx cx (gM nx ny nz cx cy cz o) xi)))],21,98⟩))) nx ⟨0,Nat.zero_le _,rfl,trivial,.inl ⟨rfl,κ⟩⟩ ?_)))))
      rintro _ _ ⟨k,hkn,rfl,hFk,(⟨hk0,rfl⟩|⟨hk0,rfl⟩)⟩ J9 hJ9
      ·
       subst hk0
       refine Ae 6 (Fd 69 (((0:Nat):Int)<(nx:Int)) (λhx6 hx6d=>?_) (λhx6 hx6d=>?_))
       ·
        exact Ae 7 (Ga 0 nx (Ae 9 (Ct (Jv (cx 0) (gM nx ny nz cx cy cz o) ((hx _ ω).fit ω) (bG.fit ω) ω) (Ct (Mh (cx 0/(gM nx ny nz cx cy cz o)) (((hx _ ω).div _).fit ω)) (Ae 13 (Cb (.osl 7 1 1) (.new 7 (.vec 3 1 1 (λ_=> .int (iR (cx 0/(gM nx ny nz cx cy cz o)))))) (Aj 23 1 #[(0,(.tmp 83))] κ underlying23 1 sizeOf3 _ zeroValue3 κ β β β 7 [.int (iR (cx 0/(gM nx ny nz cx cy cz o)))] κ (λ_=> .int (iR (cx 0/(gM nx ny nz cx cy cz o)))) κ) (Cb (.osl 8 1 1) (.newr 7 8 (.vec 3 1 1 (λxi=> .int (Jb nx cx (gM nx ny nz cx cy cz o) xi)))) (Cf (.tmp 82) (.tmp 84) 23 κ underlying23 1 8 (.int .i64 0) κ κ δ 1 ω (λ_=> .int (iR (cx 0/(gM nx ny nz cx cy cz o)))) (λxi=> .int (Jb nx cx (gM nx ny nz cx cy cz o) xi)) 8 (λi hi=>by(obtain rfl:i=0:=(ω));show AV.int (Jb _ _ _ _)=_;rw[Jb,if_pos ω]<;>rfl) (λi hi j hj=>by obtain rfl:j=0:=(ω);rfl) (by unfold maxLen;omega) ω κ 7 3 κ κ) (Ae 6 (Ev (((0:Nat):Int)+1) ((0+1:Nat):Int) (Ae 2 (Gk [6,8,10,15,18,59,60,66,67,68] [(0,0),(1,1),(2,2),(3,3),(4,4),(5,5),(8,20)] 21 0 hA0 [(3,1,1,(λ_=> .int (iR (cx 0/(gM nx ny nz cx cy cz o))))),(3,1,1,(λxi=> .int (Jb nx cx (gM nx ny nz cx cy cz o) xi)))] ⟨(Gp λ_ _=>rfl),(Gp λ_ _=>rfl),trivial⟩ (hJ9 _ _ (by omega:nx-(0+1)<nx-0) ⟨0+1,ω,rfl,trivial,.inr ⟨Nat.succ_pos _,rfl⟩⟩))))))))))))
       ·
        exact Ae 6 (yM 29 (Ae 12 (Cb (.osl 29 1 1) (.new 29 (.vec 3 1 1 (λ_=> .int 0))) (Aj 23 1 #[(0,(.const (.int .i64 0)))] κ underlying23 1 sizeOf3 _ zeroValue3 κ β β β 29 [.int 0] κ (λ_=> .int 0) κ) (Yc 29 [94] 3 1 1 (λ_=> .int 0) (Gp λ_ _=>rfl) (Ae 4 (Ob [6,8,10,15,59,60] hJ4 (hs:=(by rw[show nx=0 by omega];kernel_rfl))))))))
      ·
       refine Ae 6 (Fd 69 ((k:Int)<(nx:Int)) (λhx7 hx7d=>?_) (λhx7 hx7d=>?_))
       ·
        exact Ae 7 (Ga k nx (Ae 9 (Ct (Jv (cx k) (gM nx ny nz cx cy cz o) ((hx _ ω).fit ω) (bG.fit ω) ω) (Ct (Mh (cx k/(gM nx ny nz cx cy cz o)) (((hx _ ω).div _).fit ω)) (Ae 13 (Cb (.osl 22 1 1) (.new 22 (.vec 3 1 1 (λ_=> .int (iR (cx k/(gM nx ny nz cx cy cz o)))))) (Aj 23 1 #[(0,(.tmp 83))] κ underlying23 1 sizeOf3 _ zeroValue3 κ β β β 22 [.int (iR (cx k/(gM nx ny nz cx cy cz o)))] κ (λ_=> .int (iR (cx k/(gM nx ny nz cx cy cz o)))) κ) (Cb (.osl 23 1 (k+1)) (.grow2 20 22 23 (.vec 3 1 (k+1) (λxi=> .int (Jb nx cx (gM nx ny nz cx cy cz o) xi)))) (Cu (.tmp 82) (.tmp 84) 23 κ underlying23 1 8 (.int .i64 0) κ κ δ k 1 ω (λxi=> .int (Jb nx cx (gM nx ny nz cx cy cz o) xi)) (λ_=> .int (iR (cx k/(gM nx ny nz cx cy cz o)))) (λxi=> .int (Jb nx cx (gM nx ny nz cx cy cz o) xi)) 23 ω (by unfold maxLen;omega) (λi hi=>rfl) (λi hi=>by(obtain rfl:i=0:=(ω));show AV.int (Jb _ _ _ _)=_;rw[Jb,if_pos ω]<;>rfl) (λi hi j hj=>by obtain rfl:j=0:=(ω);rfl) 20 κ κ 22 3 κ κ) (Ae 6 (Ev ((k:Int)+1) ((k+1:Nat):Int) (Ae 2 (Gk [6,8,10,15,18,59,60,66,67,68] [(0,0),(1,1),(2,2),(3,3),(4,4),(5,5),(23,20)] 21 0 hA0 [(3,1,1,(λ_=> .int (iR (cx k/(gM nx ny nz cx cy cz o))))),(3,1,k+1,(λxi=> .int (Jb nx cx (gM nx ny nz cx cy cz o) xi)))] ⟨(Gp λ_ _=>rfl),(Gp λ_ _=>rfl),trivial⟩ (hJ9 _ _ (by omega:nx-(k+1)<nx-k) ⟨k+1,ω,rfl,trivial,.inr ⟨Nat.succ_pos _,rfl⟩⟩))))))))))))
       ·
        refine Ae 6 (rL 20 4 3 3 1 k (λxi=> .int (Jb nx cx (gM nx ny nz cx cy cz o) xi)) (Gp λ_ _=>rfl) ?_)
        have hke:k=max nx 1:=by omega
        subst hke
        exact yM 30 (Ae 7 (Ic 92 (decide (((max nx 1:Nat):Int)=0)) false (decide_eq_false ω) (Ae 5 (Ob [6,8,10,15,59,60] hJ4))))
def Xz (n:Nat) (c:Nat->Int) (g:Int):List Int:=(List.range (max n 1)).map (Jb n c g)
theorem sP (n:Nat) (c:Nat->Int) (g:Int) (i:Nat):(Xz n c g).getD i 0=Jb n c g i:=by
 unfold Xz
 rw[List.getD_eq_getElem?_getD,List.getElem?_map]
 by_cases h:i<max n 1
 rw[List.getElem?_range h];rfl
 rw[List.getElem?_eq_none (by simp;omega)]
 show (0:Int)=_
 unfold Jb
 rw[if_neg ω]
theorem Zv (n:Nat) (c:Nat->Int) (g:Int):(Xz n c g).length=max n 1:=by simp[Xz]
def tM (f t:Int) (nx ny nz:Nat) (cx cy cz:Nat->Int) (o:Int):Sg:=⟨f,t,iR (o/gM nx ny nz cx cy cz o),Xz nx cx (gM nx ny nz cx cy cz o),Xz ny cy (gM nx ny nz cx cy cz o),Xz nz cz (gM nx ny nz cx cy cz o)⟩
def tL (nx ny nz:Nat) (cx cy cz:Nat->Int) (o:Int):Bool:=decide ((0:Int)<(o/gM nx ny nz cx cy cz o-4294967296).sign)
theorem Aba {f t:Int} {nx ny nz:Nat} {cx cy cz:Nat->Int} {o:Int} (h:tL nx ny nz cx cy cz o=false):Xp f t nx ny nz cx cy cz o= .tup [Cn (tM f t nx ny nz cx cy cz o),.bool true]:=by
 unfold Xp tM
 rw[if_neg (of_decide_eq_false h)]
 have key:∀n c,(AV.sl 1 (max n 1) λxi=> .int (Jb n c (gM nx ny nz cx cy cz o) xi))=Bf (Xz n c (gM nx ny nz cx cy cz o)):=λn c=>by
  show _=AV.sl 1 (Xz n c (gM nx ny nz cx cy cz o)).length λxi=> .int ((Xz n c (gM nx ny nz cx cy cz o)).getD xi 0)
  rw[Zv,show (λxi=>AV.int ((Xz n c (gM nx ny nz cx cy cz o)).getD xi 0))=λxi=> .int (Jb n c (gM nx ny nz cx cy cz o) xi) from funext λxi=>by rw[sP]]
 rw[key,key,key]
theorem AaZ {f t:Int} {nx ny nz:Nat} {cx cy cz:Nat->Int} {o:Int} (h:tL nx ny nz cx cy cz o=true):Xp f t nx ny nz cx cy cz o= .lit (.tuple #[.agg #[.int .i64 f,.int .i64 t,.int .i64 0,.slice none 0 0,.slice none 0 0,.slice none 0 0],.bool false]):=by
 unfold Xp
 rw[if_pos (of_decide_eq_true h)]
abbrev pD (s:Sg):Int:=s.t-s.f
def Hj (s:Sg) (a b:Int):Sg:=tM a b (on s.x (a-s.f) (b-a) (pD s)) (on s.y (a-s.f) (b-a) (pD s)) (on s.z (a-s.f) (b-a) (pD s)) (oc s.x (a-s.f) (b-a) (pD s)) (oc s.y (a-s.f) (b-a) (pD s)) (oc s.z (a-s.f) (b-a) (pD s)) (s.o*pD s^5)
def Vk (s:Sg) (a b:Int):Bool:=tL (on s.x (a-s.f) (b-a) (pD s)) (on s.y (a-s.f) (b-a) (pD s)) (on s.z (a-s.f) (b-a) (pD s)) (oc s.x (a-s.f) (b-a) (pD s)) (oc s.y (a-s.f) (b-a) (pD s)) (oc s.z (a-s.f) (b-a) (pD s)) (s.o*pD s^5)
theorem Bo {x:Int} (h: -3600000<=x/\x<=3600000):Co x:=⟨ω,ω⟩
theorem rW (s:Sg) (a b:Int) (hs:Tf s) (ho:Gx s) (ha:s.f<=a/\a<=s.t) (hb:a<=b/\b<=s.t):AF Tryz.prog 140 [.int a,.int b,.agg [Tp s.x (a-s.f) (b-a) (pD s),Tp s.y (a-s.f) (b-a) (pD s),Tp s.z (a-s.f) (b-a) (pD s)],WA (s.o*pD s^5)] (Xp a b (on s.x (a-s.f) (b-a) (pD s)) (on s.y (a-s.f) (b-a) (pD s)) (on s.z (a-s.f) (b-a) (pD s)) (oc s.x (a-s.f) (b-a) (pD s)) (oc s.y (a-s.f) (b-a) (pD s)) (oc s.z (a-s.f) (b-a) (pD s)) (s.o*pD s^5)):=by
 have hh:=ho.1
 unfold Jw at hh
 have h1:Co (a-s.f):=Bo ω
 have h2:Co (b-a):=Bo ω
 have h3:Co (pD s):=Bo (by show -3600000<=s.t-s.f/\s.t-s.f<=3600000;omega)
 have hx:=ho.2.1.2.1
 have hy:=ho.2.2.1.2.1
 have hz:=ho.2.2.2.1.2.1
 refine Ach a b _ _ _ _ _ _ _ (Abi _ _ _ _ hx) (Abi _ _ _ _ hy) (Abi _ _ _ _ hz) (λi _=>eO hs.x hx h1 h2 h3 i) (λi _=>eO hs.y hy h1 h2 h3 i) (λi _=>eO hs.z hz h1 h2 h3 i) ((Wv hs h3).mono ω) ?_
 exact Int.mul_pos ω (Int.pow_pos (by show 0<s.t-s.f;omega))
theorem Zd (s:Sg) (a b:Int) (hs:Tf s) (ho:Gx s) (ha:s.f<=a/\a<=s.t) (hb:a<=b/\b<=s.t) (h:Vk s a b=false):AF Tryz.prog 140 [.int a,.int b,.agg [Tp s.x (a-s.f) (b-a) (pD s),Tp s.y (a-s.f) (b-a) (pD s),Tp s.z (a-s.f) (b-a) (pD s)],WA (s.o*pD s^5)] (.tup [Cn (Hj s a b),.bool true]):=by
 have:=rW s a b hs ho ha hb
 rwa [Aba h] at this
theorem Zc (s:Sg) (a b:Int) (hs:Tf s) (ho:Gx s) (ha:s.f<=a/\a<=s.t) (hb:a<=b/\b<=s.t) (h:Vk s a b=true):AF Tryz.prog 140 [.int a,.int b,.agg [Tp s.x (a-s.f) (b-a) (pD s),Tp s.y (a-s.f) (b-a) (pD s),Tp s.z (a-s.f) (b-a) (pD s)],WA (s.o*pD s^5)] (.lit (.tuple #[.agg #[.int .i64 a,.int .i64 b,.int .i64 0,.slice none 0 0,.slice none 0 0,.slice none 0 0],.bool false])):=by
 have:=rW s a b hs ho ha hb
 rwa [AaZ h] at this
theorem Lm (s:Sg) (a b d:Int) (hs:Tf s) (ho:Gx s) (ha:Co a) (hb:Co b) (hd:Co d) (hdp:0<d):AF Tryz.prog 141 [Cn s,.int a,.int b,.int d] (.agg [Tp s.x a b d,Tp s.y a b d,Tp s.z a b d]):=
 kH s a b d hs ho.2.1.1 ho.2.1.2.1 ho.2.2.1.1 ho.2.2.1.2.1 ho.2.2.2.1.1 ho.2.2.2.1.2.1 ha hb hd hdp
abbrev pA (l:List Sg) (f:Int) (i:Nat):Int:=max f (l.getD i Sg.none).f
abbrev pB (l:List Sg) (t:Int) (i:Nat):Int:=min t (l.getD i Sg.none).t
def Iv (l:List Sg) (f t:Int):Nat->List Sg
 |0=>[]
 |i+1=>if pA l f i<pB l t i then Iv l f t i++[Hj (l.getD i Sg.none) (pA l f i) (pB l t i)] else Iv l f t i
def Xj (l:List Sg) (f t:Int) (i:Nat):Prop:=∀j,j<i->pA l f j<pB l t j->Vk (l.getD j Sg.none) (pA l f j) (pB l t j)=false
theorem Og {l:List Sg} {f t:Int} {i:Nat} (h:¬pA l f i<pB l t i):Iv l f t (i+1)=Iv l f t i:=by rw[Iv,if_neg h]
theorem Mi {l:List Sg} {f t:Int} {i:Nat} (h:pA l f i<pB l t i):Iv l f t (i+1)=Iv l f t i++[Hj (l.getD i Sg.none) (pA l f i) (pB l t i)]:=by rw[Iv,if_pos h]
theorem Zw {l:List Sg} {f t:Int} {i:Nat} (h:¬pA l f i<pB l t i) (hk:Xj l f t i):Xj l f t (i+1):=λj hj h2=>by
 by_cases e:j=i
 subst e;exact absurd h2 h
 exact hk j ω h2
theorem dP {l:List Sg} {f t:Int} {i:Nat} (h:Vk (l.getD i Sg.none) (pA l f i) (pB l t i)=false) (hk:Xj l f t i):Xj l f t (i+1):=λj hj h2=>by
 by_cases e:j=i
 subst e;exact h
 exact hk j ω h2
open Classical in
noncomputable def lN (l:List Sg) (f t:Int):List Sg×Int:=if Xj l f t l.length then (Iv l f t l.length,0) else ([],7)
theorem sR {l:List Sg} {f t:Int} (h:Xj l f t l.length):lN l f t=(Iv l f t l.length,0):=if_pos h
theorem sQ {l:List Sg} {f t:Int} {j:Nat} (hj:j<l.length) (h1:pA l f j<pB l t j) (h2:Vk (l.getD j Sg.none) (pA l f j) (pB l t j)=true):lN l f t=([],7):=if_neg λh=>by
 have:=h j hj h1
 rw[h2] at this;cases this
theorem aK {p:Pr} {k:Nat} {t:Int} {m:List Int}:∀{i:Nat} {l:List Int},i<=m.length->Dz p k t m i=some l->∀j,l.getD j 0=m.getD j 0+if j<i then ((Gv p k t j).length:Int) else 0
 |0,l,_,h,j=>by cases h;rw[if_neg (Nat.not_lt_zero j),Int.add_zero]
 |i+1,l,hi,h,j=>by
  rw[Dz] at h
  cases h1:Dz p k t m i with
  |none=>rw[h1] at h;cases h
  |some l1=>
   rw[h1] at h
   simp only at h
   have ih:=aK ω h1
   have hlen:l1.length=m.length:=by
    clear ih h
    have key:∀{i:Nat} {l1:List Int},Dz p k t m i=some l1->l1.length=m.length:=by
     intro i
     induction i with
     |zero=>intro l1 h;cases h;rfl
     |succ i ih=>
      intro l1 h
      rw[Dz] at h
      cases h2:Dz p k t m i with
      |none=>rw[h2] at h;cases h
      |some l2=>
       rw[h2] at h
       simp only at h
       split at h
       cases h;rw[List.length_set];exact ih h2
       cases h
    exact key h1
   split at h
   cases h
   by_cases e:i=j
   subst e
   rw[if_pos (Nat.lt_succ_self i)]
   have h2:=ih i
   rw[if_neg (Nat.lt_irrefl i),Int.add_zero] at h2
   rw[<-h2]
   simp[List.getD_eq_getElem?_getD,show i<l1.length by omega]
   have h2:=ih j
   have h4:(if j<i then ((Gv p k t j).length:Int) else 0)=if j<i+1 then ((Gv p k t j).length:Int) else 0:=by
    by_cases hj:j<i
    rw[if_pos hj,if_pos ω]
    rw[if_neg hj,if_neg ω]
   rw[<-h4,<-h2]
   simp[List.getD_eq_getElem?_getD,List.getElem?_set_ne e]
   cases h
theorem oB {p:Pr}:∀{k:Nat} {t:Int} {m:List Int},Ke p k=some (t,m)->∀i,i<p.names.length->m.getD i 0=((Im p k i).length:Int)/\((Im p k i).length:Int)<=256
 |0,t,m,h,i,hi=>by
  simp only[Ke,Option.some.injEq,Prod.mk.injEq] at h
  obtain⟨_,rfl⟩:=h
  simp[List.getD_eq_getElem?_getD,hi,Im]
 |k+1,t,m,h,i,hi=>by
  have hfin:=Mr h
  have hm:i<m.length:=by rw[hfin.2.2.1];exact hi
  have hb:m.getD i 0<=256:=by
   have:m.getD i 0=m[i]:=by simp[List.getD_eq_getElem?_getD,hm]
   rw[this];exact(hfin.2.2.2.1 _ (List.getElem_mem hm)).2
  rw[Ke] at h
  cases h1:Ke p k with
  |none=>rw[h1] at h;cases h
  |some tm=>
   obtain⟨t1,m1⟩:=tm
   rw[h1] at h
   simp only at h
   have ih:=oB h1 i hi
   have h1f:=Mr h1
   have ht:=(bW h1).1
   split at h
   cases h2:Dz p k t1 m1 p.names.length with
   |none=>rw[h2] at h;cases h
   |some m2=>
    rw[h2] at h
    simp only[Option.some.injEq,Prod.mk.injEq] at h
    obtain⟨_,rfl⟩:=h
    have h3:=aK (by rw[h1f.2.2.1];exact Nat.le_refl _) h2 i
    rw[if_pos hi,ih.1,ht] at h3
    have h4:m2.getD i 0=((Im p (k+1) i).length:Int):=by rw[h3,Im,List.length_append];omega
    exact⟨h4,ω⟩
   cases h
theorem Adb {p:Pr} (h:Da p=true) {i:Nat} (hi:i<p.names.length):(Im p p.acts.length i).length<=256:=by
 unfold Da at h
 simp only[Bool.and_eq_true] at h
 obtain⟨tm,ht⟩:=Option.isSome_iff_exists.1 h.2
 obtain⟨t,m⟩:=tm
 have:=(oB ht i hi).2
 omega
theorem Qs {p:Pr} (ho:Wf p):∀k,k<=p.acts.length->0<k->0<Bn p.acts k
 |0,_,h=>absurd h (Nat.lt_irrefl 0)
 |k+1,hk,_=>by
  have h1:=(ho.ends k ω).1
  have h2:=ho.len k ω
  rw[Bn];omega
structure AeM (p:Pr) (i:Nat) (l:List Sg):Prop where
 ok:Fn l
 pin:Dg l
 first:(l.getD 0 Sg.none).f=0
 last:(l.getD (l.length-1) Sg.none).t=Bn p.acts p.acts.length
 one:∀i,i<l.length->(l.getD i Sg.none).o=1
theorem Aep {p:Pr} (h:Da p=true) (h0:0<p.acts.length) {i:Nat} (hi:i<p.names.length):AeM p i (Im p p.acts.length i):=by
 have ho:=Fz h
 have hc:=Wu ho hi p.acts.length (Nat.le_refl _)
 have hp:=hc.pos (Qs ho _ (Nat.le_refl _) h0)
 have hf:=Adb h hi
 refine⟨⟨λj hj=>⟨(hc.seg j hj).1,(hc.seg j hj).2.2.2⟩,hp,hf⟩,⟨ω,λj=>?_⟩,hc.first hp,hc.last hp,λj hj=>(hc.seg j hj).2.2.1⟩
 by_cases hj:j<(Im p p.acts.length i).length
 exact(hc.seg j hj).2.1
 have e:(Im p p.acts.length i).getD j Sg.none=Sg.none:=by rw[List.getD_eq_getElem?_getD,List.getElem?_eq_none ω];rfl
 rw[e];exact Dg.nil.2 0
theorem lL (p:Nat->Int) (m:Nat) (d:Int):∀j k,k<=j->j<m->cN p m 0 d d j k=p (m-1-j+k)*d^j
 |0,k,hk,hj=>by
  obtain rfl:k=0:=by omega
  rw[cN,Int.pow_zero,Int.mul_one];rfl
 |j+1,k,hk,hj=>by
  rw[cN]
  by_cases h0:k=0
  subst h0
  rw[if_pos rfl,Yt]
  unfold inn
  rw[if_pos (Nat.succ_pos j),if_pos rfl,Int.mul_zero,Int.zero_add,Int.zero_add,show m-2-j=m-1-(j+1)+0 by omega]
  rw[if_neg h0,Int.add_zero]
  have ih:=lL p m d j (k-1) ω ω
  unfold inn
  by_cases h1:k<j+1
  rw[if_pos h1,if_neg h0,Int.mul_zero,Int.add_zero,ih,Int.pow_succ,Int.mul_assoc,show m-1-j+(k-1)=m-1-(j+1)+k by omega]
  obtain rfl:k=j+1:=by omega
  rw[Nat.add_sub_cancel] at ih
  rw[if_neg h1,if_pos ⟨rfl,Nat.succ_pos j⟩,Nat.add_sub_cancel,ih,Int.pow_succ,Int.mul_assoc,show m-1-j+j=m-1-(j+1)+(j+1) by omega]
theorem yN {l:List Int} {d:Int} (hd:0<d) (h1:1<=l.length) (h6:l.length<=6) (hl:1<l.length->l.getD (l.length-1) 0≠0):
  (on l 0 d d=l.length/\∀i,i<l.length->oc l 0 d d i=l.getD i 0*d^5)\/(l=[0]/\on l 0 d d=0):=by
 by_cases hz:l.getD (l.length-1) 0=0
 right
 have e1:l.length=1:=by
  by_cases h:1<l.length
  exact absurd hz (hl h)
  omega
 obtain⟨a,rfl⟩:=List.length_eq_one_iff.1 e1
 have ha:a=0:=hz
 subst ha
 refine⟨rfl,?_⟩
 have e2:cG [0]=0:=by decide
 show Fl (oc [0] 0 d d) (Fl (mY [0] 0 d d) (cG [0]))=0
 rw[e2];rfl
 left
 have e2:cG l=l.length:=Sk (.inr hz)
 have e3:∀i,i<l.length->mY l 0 d d i=l.getD i 0*d^(l.length-1):=λi hi=>by
  show cN (Yj l) (cG l) 0 d d (cG l-1) i=_
  rw[e2,lL _ _ _ _ _ ω ω,show l.length-1-(l.length-1)+i=i by omega]
 have hdp:∀k,d^k≠0:=λk=>Int.ne_of_gt (Int.pow_pos hd)
 have e4:∀i,i<l.length->oc l 0 d d i=l.getD i 0*d^5:=λi hi=>by
  show mY l 0 d d i*d^(6-l.length)=_
  rw[e3 i hi,Int.mul_assoc,<-Int.pow_add,show l.length-1+(6-l.length)=5 by omega]
 refine⟨?_,e4⟩
 have e5:Fl (mY l 0 d d) (cG l)=l.length:=by
  rw[e2]
  refine Sk (.inr ?_)
  rw[e3 _ ω]
  exact Int.mul_ne_zero hz (hdp _)
 show Fl (oc l 0 d d) (Fl (mY l 0 d d) (cG l))=l.length
 rw[e5]
 refine Sk (.inr ?_)
 rw[e4 _ ω]
 exact Int.mul_ne_zero hz (hdp _)
theorem Uo {c:Nat->Int} {g:Int} (hg:0<g):∀k,(∀i,i<k->∃q,c i=q*g)->gF c g k=g
 |0,_=>rfl
 |k+1,h=>by
  rw[gF,Uo hg k λi hi=>h i ω]
  obtain⟨q,hq⟩:=h k (Nat.lt_succ_self k)
  rw[hq,Int.natAbs_mul,Nat.gcd_eq_left (Nat.dvd_mul_left _ _)]
  omega
theorem Tv {l:List Int} {d:Int} (hd:0<d) (h1:1<=l.length) (h6:l.length<=6) (hl:1<l.length->l.getD (l.length-1) 0≠0) (hin:∀i,Co (l.getD i 0)):
  Xz (on l 0 d d) (oc l 0 d d) (d^5)=l/\∀i,i<on l 0 d d->∃q,oc l 0 d d i=q*d^5:=by
 have hd5:d^5≠0:=Int.ne_of_gt (Int.pow_pos hd)
 rcases yN hd h1 h6 hl with⟨e1,e2⟩|⟨e1,e2⟩
 refine⟨eM (by rw[Zv,e1];omega) λq hq=>?_,λi hi=>⟨_,e2 i ω⟩⟩
 rw[Zv,e1] at hq
 rw[sP,Jb,e1,if_pos ω,e2 q ω,Int.mul_ediv_cancel _ hd5,AeT (hin q)]
 refine⟨?_,λi hi=>by omega⟩
 rw[e2,e1]
 rfl
theorem aV {s:Sg} (hs:Tf s) (ho:Gx s) (h1:s.o=1):Hj s s.f s.t=s/\Vk s s.f s.t=false:=by
 have hh:=ho.1
 unfold Jw at hh
 have hd:0<pD s:=by show 0<s.t-s.f;omega
 have hd5:0<pD s^5:=Int.pow_pos hd
 obtain⟨x1,x2⟩:=Tv hd ho.2.1.1 ho.2.1.2.1 ho.2.1.2.2.1 hs.x
 obtain⟨y1,y2⟩:=Tv hd ho.2.2.1.1 ho.2.2.1.2.1 ho.2.2.1.2.2.1 hs.y
 obtain⟨z1,z2⟩:=Tv hd ho.2.2.2.1.1 ho.2.2.2.1.2.1 ho.2.2.2.1.2.2.1 hs.z
 have e0:s.f-s.f=0:=by omega
 have e1:s.t-s.f=pD s:=rfl
 have g:gM (on s.x 0 (pD s) (pD s)) (on s.y 0 (pD s) (pD s)) (on s.z 0 (pD s) (pD s)) (oc s.x 0 (pD s) (pD s)) (oc s.y 0 (pD s) (pD s)) (oc s.z 0 (pD s) (pD s)) (1*pD s^5)=pD s^5:=by
  unfold gM
  rw[Int.one_mul,Uo hd5 _ x2,Uo hd5 _ y2,Uo hd5 _ z2]
 have q1:(1*pD s^5)/pD s^5=1:=by rw[Int.one_mul];exact Int.ediv_self (Int.ne_of_gt hd5)
 constructor
 unfold Hj tM
 rw[e0,e1,h1,g,q1,x1,y1,z1]
 exact Ab2 rfl rfl h1.symm rfl rfl rfl
 unfold Vk tL
 rw[e0,e1,h1,g,q1]
 decide
theorem lO {l:List Sg} {f t:Int}:∀n,Iv l f t n=[]->∀i,i<n->¬pA l f i<pB l t i
 |0,_,i,hi=>absurd hi (Nat.not_lt_zero i)
 |n+1,h,i,hi=>by
  by_cases hlt:pA l f n<pB l t n
  rw[Mi hlt] at h;simp at h
  rw[Og hlt] at h
  by_cases e:i=n
  subst e;exact hlt
  exact lO n h i ω
theorem Ac5 {l:List Sg} {f t:Int} (hok:Fn l) (hf:(l.getD 0 Sg.none).f<=f) (hft:f<t) (ht:t<=(l.getD (l.length-1) Sg.none).t):0<(Iv l f t l.length).length:=by
 rcases Nat.eq_zero_or_pos (Iv l f t l.length).length with h|h
 exfalso
 have hn:=lO _ (List.eq_nil_of_length_eq_zero h)
 have key:∀i,i<l.length->(l.getD i Sg.none).t<=f:=by
  intro i
  induction i with
  |zero=>
   intro hi
   have:=hn 0 hi
   have:¬max f (l.getD 0 Sg.none).f<min t (l.getD 0 Sg.none).t:=this
   omega
  |succ i ih=>
   intro hi
   have h1:=ih ω
   have h2:=((hok.1 (i+1) hi).2 (Nat.succ_pos i)).1
   rw[Nat.add_sub_cancel] at h2
   have:¬max f (l.getD (i+1) Sg.none).f<min t (l.getD (i+1) Sg.none).t:=hn (i+1) hi
   omega
 have:=key (l.length-1) (by have:=hok.2.1;omega)
 omega
 exact h
theorem Qd.nil:Qd []:=⟨δ,λi=>by simp[Sg.none,RowsIn]⟩
end Go.Proofs.YtldnjomacnjhnaaGreat
namespace Go.Proofs.YtldnjomacnjhnaaGreat
open Go.RowKit
def qN (p:Pr) (i k:Nat):Nat->List Sg
 |0=>[]
 |m+1=>qN p i k m++Gv p (k+m) (Bn p.acts (k+m)) i
theorem nF (p:Pr) (i k:Nat):∀m,Im p (k+m) i=Im p k i++qN p i k m
 |0=>(List.append_nil _).symm
 |m+1=>by
  show Im p (k+m) i++_=_
  rw[nF p i k m,List.append_assoc];rfl
theorem sZ (p:Pr) (k i:Nat):(Dx p (k+1)).getD i V3.zero=((p.acts.getD k Ac.none).moves.getD i Mv.none).to:=by
 unfold Dx
 rw[if_neg (Nat.succ_ne_zero k),Nat.add_sub_cancel]
 show ((p.acts.getD k Ac.none).moves.map (·.to)).getD i V3.zero=_
 generalize (p.acts.getD k Ac.none).moves=ms
 rw[List.getD_eq_getElem?_getD,List.getElem?_map,List.getD_eq_getElem?_getD]
 cases ms[i]?<;>rfl
theorem aT {p:Pr} (ho:Wf p) {i:Nat} (hi:i<p.names.length) (k:Nat):∀m,k+m<=p.acts.length->Br (qN p i k m) ((Dx p k).getD i V3.zero) ((Dx p (k+m)).getD i V3.zero) (Bn p.acts k) (Bn p.acts (k+m))
 |0,_=>⟨rfl,rfl⟩
 |m+1,hk=>by
  refine Br.app (aT ho hi k m ω) ?_
  have h2:=Xs (ho.pe (k+m) i ω hi)
  rw[show k+(m+1)=k+m+1 from rfl,sZ]
  exact h2
theorem nG (p:Pr) (i k:Nat):∀m,(qN p i k m).length<=5*m
 |0=>Nat.zero_le _
 |m+1=>by
  have h1:=nG p i k m
  have h2:=Sf p (k+m) (Bn p.acts (k+m)) i
  rw[qN,List.length_append];omega
def Aby (p:Pr) (i k:Nat):List Sg:=qN p i k (p.acts.length-k)
theorem xO {p:Pr} {k:Nat} (i:Nat) (hk:k<=p.acts.length):Im p p.acts.length i=Im p k i++Aby p i k:=by
 have:=nF p i k (p.acts.length-k)
 rwa [show k+(p.acts.length-k)=p.acts.length by omega] at this
theorem nQ {p:Pr} (ho:Wf p) {i:Nat} (hi:i<p.names.length) {k:Nat} (hk:k<=p.acts.length):Br (Aby p i k) ((Dx p k).getD i V3.zero) ((Dx p p.acts.length).getD i V3.zero) (Bn p.acts k) (Bn p.acts p.acts.length):=by
 have:=aT ho hi k (p.acts.length-k) ω
 rwa [show k+(p.acts.length-k)=p.acts.length by omega] at this
theorem Br.okP {l:List Sg} {a b:V3} {f t:Int} (h:Br l a b f t) (hp:0<l.length) (hn:l.length<=256):Fn l/\Dg l:=
 ⟨⟨λj hj=>⟨(h.seg j hj).1,(h.seg j hj).2.2.2⟩,hp,hn⟩,ω,λj=>by
  by_cases hj:j<l.length
  exact(h.seg j hj).2.1
  have e:l.getD j Sg.none=Sg.none:=by rw[List.getD_eq_getElem?_getD,List.getElem?_eq_none ω];rfl
  rw[e];exact Dg.nil.2 0⟩
theorem Br.le:∀{l:List Sg} {a b:V3} {f t:Int},Br l a b f t->f<=t
 |[],_,_,_,_,⟨_,e⟩=>by omega
 |_::_,_,_,_,_,⟨_,_,h,hr⟩=>by have:=h.ft;have:=Br.le hr;omega
theorem Br.nil_of {l:List Sg} {a b:V3} {f:Int} (h:Br l a b f f):l=[]:=by
 match l,h with
 |[],_=>rfl
 |_::_,⟨_,_,h,hr⟩=>have:=h.ft;have:=Br.le hr;omega
theorem Jk {l r:List Sg} {a b c:V3} {f t u:Int} (h1:Br l a b f t) (h2:Br r b c t u) (p1:0<l.length) (p2:0<r.length) (hn:l.length+r.length<=256):Nw l r=(l++r,0):=by
 have h:=(h1.app h2).seg l.length (by rw[List.length_append];omega)
 have hm:=h.2.2.2 p1
 rw[Kw,Kw,if_pos ω,if_neg (Nat.lt_irrefl _),Nat.sub_self] at hm
 exact Aai (Dm (h1.okP p1 ω).1) (Dm (h2.okP p2 ω).1) (Dm hm) ω
theorem Br.times:∀{l:List Sg} {a b:V3} {f t:Int},Br l a b f t->∀i,i<l.length->f<=(l.getD i Sg.none).f/\(l.getD i Sg.none).t<=t
 |s::r,_,_,f,t,⟨c,u,h,hr⟩,0,_=>by
  have:=hr.le
  exact⟨by show f<=s.f;rw[h.rows.2.2.2.1];omega,by show s.t<=t;rw[h.rows.2.2.2.2.1];omega⟩
 |s::r,_,_,f,t,⟨c,u,h,hr⟩,i+1,hi=>by
  have h1:=Br.times hr i (by simpa using hi)
  have:=h.ft
  exact⟨by show f<=(r.getD i Sg.none).f;omega,h1.2⟩
theorem Aa0 {l r:List Sg} {a b c:V3} {f t u:Int} (h1:Br l a b f t) (h2:Br r b c t u):lN (l++r) t u=(r,0):=by
 have hl:∀i,i<l.length->¬pA (l++r) t i<pB (l++r) u i:=λi hi=>by
  have:=h1.times i hi
  show ¬max t ((l++r).getD i Sg.none).f<min u ((l++r).getD i Sg.none).t
  rw[Kw,if_pos hi];omega
 have hr:∀i,i<r.length->(l++r).getD (l.length+i) Sg.none=r.getD i Sg.none/\pA (l++r) t (l.length+i)=(r.getD i Sg.none).f/\pB (l++r) u (l.length+i)=(r.getD i Sg.none).t/\(r.getD i Sg.none).f<(r.getD i Sg.none).t:=λi hi=>by
  have h3:=h2.times i hi
  have e:(l++r).getD (l.length+i) Sg.none=r.getD i Sg.none:=by rw[Kw,if_neg ω,Nat.add_sub_cancel_left]
  have h4:=((h2.seg i hi).1).1
  unfold Jw at h4
  refine⟨e,?_,?_,ω⟩
  show max t ((l++r).getD (l.length+i) Sg.none).f=_
  rw[e];omega
  show min u ((l++r).getD (l.length+i) Sg.none).t=_
  rw[e];omega
 have e1:∀n,n<=l.length->Iv (l++r) t u n=[]:=by
  intro n
  induction n with
  |zero=>intro _;rfl
  |succ n ih=>intro hn;rw[Og (hl n ω),ih ω]
 have e2:∀n,n<=r.length->Iv (l++r) t u (l.length+n)=r.take n:=by
  intro n
  induction n with
  |zero=>intro _;rw[Nat.add_zero,e1 _ (Nat.le_refl _),List.take_zero]
  |succ n ih=>
   intro hn
   obtain⟨g1,g2,g3,g4⟩:=hr n ω
   have h3:=h2.seg n ω
   rw[show l.length+(n+1)=l.length+n+1 from rfl,Mi (by rw[g2,g3];exact g4),g1,g2,g3,(aV h3.2.1 h3.1 h3.2.2.1).1,ih ω,List.take_succ_eq_append_getElem ω]
   congr 2
   simp[List.getD_eq_getElem?_getD,show n<r.length by omega]
 have hk:Xj (l++r) t u (l++r).length:=λj hj hlt=>by
  by_cases h:j<l.length
  exact absurd hlt (hl j h)
  have hj2:j<l.length+r.length:=by rw[<-List.length_append];exact hj
  obtain⟨m,rfl⟩:∃m,j=l.length+m:=⟨j-l.length,ω⟩
  obtain⟨g1,g2,g3,g4⟩:=hr m ω
  have h3:=h2.seg m ω
  rw[g1,g2,g3]
  exact(aV h3.2.1 h3.1 h3.2.2.1).2
 rw[sR hk,List.length_append,e2 _ (Nat.le_refl _),List.take_length]
end Go.Proofs.YtldnjomacnjhnaaGreat