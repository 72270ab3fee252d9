/- Part 29 of the proof of PF.card_holds: no condition beyond the row's. -/
import Derived.Test.YtihcpmmopejpoaaGreatDoorPF28
import Derived.Test.YtihcpmmopejpoaaGreatDoorRows
import Derived.LaidMore
import Derived.OpenShut
import Derived.ShutString
import Derived.ChangeOld
import Derived.Lib.LaidTab
import Derived.Stop.Joined
import Derived.HandedShaped
import Derived.Deep.Fields
set_option maxRecDepth 100000
set_option maxHeartbeats 40000000
namespace Go.Proofs.YtihcpmmopejpoaaGreatDoor.Open
open Go.ChangeShapes Go.WideShapes Go.ChangeAt Go.RowKit Go.Deep
section
variable {H:Type} {enc:TypeId×Value->H} {W:World} {n:Nat} {y:DataW H×List MemPlace} {cs:List Value}
theorem Ad8 (hl:cs.length=3) (h:DataW.trod enc Tryz.prog W 0 (λ_=>true) true n 51 cs=some y):∃a:Ac,Af7 W (rg 0 W.heap.size) a cs/\(a.name.size<=maxLen/\Cj a.len):=by
 match cs,hl with
 |[a,b,c],_=>
  obtain⟨m0,z0,h0⟩:=Cs (ty:=9) (off:=0) Tryz.underlying51 h 0 (by rfl)
  obtain⟨m1,z1,h1⟩:=Cs (ty:=3) (off:=1) Tryz.underlying51 h 1 (by rfl)
  obtain⟨m2,z2,h2⟩:=Cs (ty:=49) (off:=2) Tryz.underlying51 h 2 (by rfl)
  simp only[rS,AlF,AjO] at h0 h1 h2
  obtain⟨s,e0,_,hs⟩:=DataW.trod_string Tryz.underlying9 h0
  obtain⟨k1,e1,f1⟩:=Hq h1
  obtain⟨ad,len,cap,e2⟩:=Go.Joins.slice_form Tryz.underlying49 h2
  rw[e2] at h2
  obtain⟨l,g1,g2,g3,_⟩:=Kv Tryz.underlying49 Amu δ h2
  obtain⟨L,L1,L2⟩:=dC (cells:=Mv.cells) l (λcs hc=>by obtain⟨hl,n,y,ht⟩:=g2 cs hc;exact Ad9 hl ht)
  simp at e0 e1 e2
  refine⟨⟨s,k1,L⟩,⟨.slice ad len cap,by simp[e0,e1,e2],?_⟩,hs,f1⟩
  show Cn W _ 6 _ L.length (mvs L)
  have hL:L.length=len:=by omega
  rw[hL]
  unfold mvs
  rw[<-L2]
  exact g3
theorem rE:∀(l:List (List Value)) (_:∀cs∈l,∃a:Ac,Af7 W (rg 0 W.heap.size) a cs/\(a.name.size<=maxLen/\Cj a.len)),∃L:List Ac,L.length=l.length/\Tk W (rg 0 W.heap.size) L l.flatten/\∀a∈L,(a.name.size<=maxLen/\Cj a.len)
 |[],_=>⟨[],rfl,rfl,by simp⟩
 |cs::l,h=>by
  obtain⟨a,ha,hs⟩:=h cs (by simp)
  obtain⟨L,h1,h2,h3⟩:=rE l (λc hc=>h c (by simp[hc]))
  refine⟨a::L,by simp[h1],⟨cs,l.flatten,by simp,ha,h2⟩,λx hx=>?_⟩
  rcases List.mem_cons.1 hx with rfl|hx
  exact hs
  exact h3 x hx
theorem open_prog2 {v:Value} {d:DataW H} {p:List MemPlace} {base:Nat} (hv:Value.okWide Tryz.prog W .any base 31 v) (h:DataW.Trod enc Tryz.prog W 0 (λ_=>true) true 31 v d p):
  ∃(vn vh va:Value) (pr:Pr),v= .agg #[vn,vh,va]/\Ia W W.heap.size vn vh va pr/\(∀s∈pr.names,s.size<=maxLen)/\(∀a∈pr.acts,(a.name.size<=maxLen/\Cj a.len)):=by
 obtain⟨v0,v1,v2,y0,y1,y2,n,rfl,_,_,h0,h1,h2⟩:=Go.Joins.open_agg3 Tryz.underlying31 κ κ hv h
 obtain⟨a0,l0,c0,e0⟩:=Go.Joins.slice_form Tryz.underlying28 h0
 obtain⟨a1,l1,c1,e1⟩:=Go.Joins.slice_form Tryz.underlying22 h1
 obtain⟨a2,l2,c2,e2⟩:=Go.Joins.slice_form Tryz.underlying29 h2
 obtain rfl:v0= .slice a0 l0 c0:=by simpa using e0
 obtain rfl:v1= .slice a1 l1 c1:=by simpa using e1
 obtain rfl:v2= .slice a2 l2 c2:=by simpa using e2
 obtain⟨N,hN,sN,_,zN⟩:=zF h0
 obtain⟨lh,g1,g2,g3,_⟩:=Kv Tryz.underlying22 Age δ h1
 obtain⟨Hm,H1,H2⟩:=dC (cells:=λv:V3=>[.int .i64 v.x,.int .i64 v.y,.int .i64 v.z]) lh (λcs hc=>by obtain⟨hl,n,y,ht⟩:=g2 cs hc;exact fX hl ht)
 obtain⟨la,k1,k2,k3,_⟩:=Kv Tryz.underlying29 Aow δ h2
 obtain⟨Ac,A1,A2,A3⟩:=rE la (λcs hc=>by obtain⟨hl,n,y,ht⟩:=k2 cs hc;exact Ad8 hl ht)
 refine⟨_,_,_,⟨N,Hm,Ac⟩,rfl,⟨sN,?_,la.flatten,?_,A2⟩,zN,A3⟩
 have hL:Hm.length=l1:=by omega
 show Bq W 0 W.heap.size 3 _ Hm.length (Ja Hm)
 rw[hL]
 unfold Ja
 rw[<-H2]
 exact g3
 have hL:Ac.length=l2:=by omega
 show Bq W 0 W.heap.size 3 _ Ac.length _
 rw[hL]
 exact k3
theorem Amv:Tryz.prog.cellsOf 22=1:=κ
end
end Go.Proofs.YtihcpmmopejpoaaGreatDoor.Open
namespace Go.Proofs.YtihcpmmopejpoaaGreatDoor
open Go.Proofs.Tryz
open Go.RowKit
theorem Ab6 {w:World} {D:Nat->Prop} {l:List V3} {v:Value} (h:Cn w D 3 v l.length (Ja l)) {E:Ar} (hw:E.w=w) (hD:∀b,D b->E.D b):VR E (Fg l) v:=
 Le h hw hD λi j hi hj=>by
  have:=Qv (λv:V3=>[Value.int .i64 v.x,.int .i64 v.y,.int .i64 v.z]) 3 (λ_=>rfl) l i j V3.zero hi hj
  unfold Ja
  rw[this]
  match j,hj with
  |0,_=>exact .lit _ _
  |1,_=>exact .lit _ _
  |2,_=>exact .lit _ _
theorem Anh {w:World} {D:Nat->Prop} {l:List Mv} {v:Value} (h:Cn w D 6 v l.length (mvs l)) {E:Ar} (hw:E.w=w) (hD:∀b,D b->E.D b):VR E (Ang l) v:=
 Le h hw hD λi j hi hj=>by
  have:=Qv Mv.cells 6 (λ_=>rfl) l i j Mv.none hi hj
  unfold mvs
  rw[this]
  match j,hj with
  |0,_=>exact .lit _ _
  |1,_=>exact .lit _ _
  |2,_=>exact .lit _ _
  |3,_=>exact .lit _ _
  |4,_=>exact .lit _ _
  |5,_=>exact .lit _ _
theorem Ah1 {w:World} {D:Nat->Prop} {l:List ByteArray} {v:Value} (h:Cn w D 1 v l.length (strs l)) {E:Ar} (hw:E.w=w) (hD:∀b,D b->E.D b):VR E (Dh l) v:=
 Le h hw hD λi j hi hj=>by
  obtain rfl:j=0:=by omega
  have e:(strs l).getD (i*1+0) undef= .string (l.getD i ByteArray.empty):=by simp[strs,hi]
  rw[e]
  exact .lit _ _
theorem Aj8 {w:World} {D:Nat->Prop} {l:List Ac} {v:Value} {cs:List Value} (h:Cn w D 3 v l.length cs) (ha:Tk w D l cs) {E:Ar} (hw:E.w=w) (hD:∀b,D b->E.D b):VR E (Eu l) v:=
 Le h hw hD λi j hi hj=>by
  obtain⟨vm,hm,hat⟩:=ha.at_ hi
  have e:l.getD i Ac.none=l[i]:=by rw[Γ,List.getElem?_eq_getElem hi];rfl
  have g:∀u,[Value.string l[i].name,.int .i64 l[i].len,vm][j]?=some u->cs.getD (i*3+j) undef=u:=λu hu=>by
   rw[Γ,hat j u hu];rfl
  rw[e]
  match j,hj with
  |0,_=>rw[g _ rfl];exact .lit _ _
  |1,_=>rw[g _ rfl];exact .lit _ _
  |2,_=>rw[g _ rfl];exact Anh (E:=E.fz) hm hw hD
theorem AkI {w:World} {hi:Nat} {vn vh va:Value} {p:Pr} (h:Ia w hi vn vh va p) {E:Ar} (hw:E.w=w) (hD:∀b,b<hi->E.D b):VR E (Gm p) (.agg #[vn,vh,va]):=by
 obtain⟨cs,k1,k2⟩:=h.acts
 have hD2:∀b,rg 0 hi b->E.D b:=λb hb=>hD b hb.2
 refine .agg _ _ _ rfl λi hi=>?_
 have h3:i<3:=hi
 match i,h3 with
 |0,_=>exact Ah1 h.names hw hD2
 |1,_=>exact Ab6 h.homes hw hD2
 |2,_=>exact Aj8 k1 k2 hw hD2
theorem Aoi {f:FuncId} {args args':List AV} {r r':AV} (h:AF Tryz.prog f args r) (hl:args'.length=args.length) (ha:∀i,i<args.length->∀E v,VR E (args'.getD i .top) v->VR E (args.getD i .top) v) (hr:∀E v,VR E r v->VR E r' v):AF Tryz.prog f args' r':=λE vs hD hn hv=>by
 refine Calls.mono (h E vs hD ω λi hi=>ha i hi _ _ (hv i ω)) ?_
 rintro e w' ⟨v,D',h1,h2,h3⟩
 exact⟨v,D',h1,hr _ _ h2,h3⟩
abbrev Am4 (p:Nat->Int) (m:Nat) (a b d:Int):Nat->Int:=cN p m a b d (m-1)
theorem qF (p:Nat->Int) (a b d:Int) (ha:Cj a) (hb:Cj b) (hd:Cj d) (hdp:0<d):AF Tryz.prog 130 [Dk 0 p,WA a,WA b,WA d] (.lit (.tuple #[.slice none 0 0,.int .i64 0])):=by
 refine As func130 rfl λB D0 hA0=>?_
 exact Ae 13 (Ao (Rg 0 p ω (λi hi=>absurd hi (Nat.not_lt_zero i)) (.inl rfl)) (Ae 3 (Ao (Ee _ (Js ha)) (Ae 4 (Ao (Ee _ (Js hb)) (Ae 4 (Ao (Ee _ (Js hd)) (Ae 11 (Ao (Nk d (Js hd)) (Ae 3 (Jb 37 (decide (d.sign<=0)) false (decide_eq_false (by rw[Int.sign_eq_one_of_pos hdp];decide)) (Ae 20 (Ck)))))))))))))
theorem VR.nil_poly {E:Ar} {v:Value} {c:Nat->Int} {e:Int} (h:VR E (.lit (.tuple #[.slice none 0 0,.int .i64 e])) v):VR E (.tup [Dk 0 c,.int e]) v:=by
 have:=h.lit_inv
 subst this
 refine .tup _ _ _ rfl λi hi=>?_
 match i,hi with
 |0,_=>exact .sl0 _ _ _ _ _
 |1,_=>exact .lit _ _
theorem dS (m:Nat) (p:Nat->Int) (a b d:Int) (hm:m<=6) (hp:∀i,Cj (p i)) (hl:m=0\/p (m-1)≠0) (ha:Cj a) (hb:Cj b) (hd:Cj d) (hdp:0<d):AF Tryz.prog 130 [Dk m p,WA a,WA b,WA d] (.tup [Dk (Hh (Am4 p m a b d) m) (Am4 p m a b d),.int 0]):=by
 cases m with
 |zero=>exact Aoi (qF p a b d ha hb hd hdp) rfl (λ_ _ _ _ h=>h) λE v hv=>hv.nil_poly
 |succ k=>exact qG k p a b d ω hp (hl.resolve_left ω) ha hb hd hdp
abbrev ocN (l:List Int):Nat:=Hh (nN l) l.length
abbrev oc1 (l:List Int) (a b d:Int):Nat->Int:=Am4 (nN l) (ocN l) a b d
theorem Anm {l:List Int} (h:∀i,Cj (l.getD i 0)) (hn:l.length<=6) {a b d:Int} (ha:Cj a) (hb:Cj b) (hd:Cj d) (i:Nat):Bd 500 (oc1 l a b d i):=by
 have:ocN l<=l.length:=Oa (nN l) l.length
 exact(rR h ha hb hd _ i).mono ω
theorem Aa8 {y:Int} (h:((Ci y.natAbs).toList==(⟨#[]⟩:ByteArray).toList)=false):0<y.natAbs:=Nat.pos_of_ne_zero λe=>by
 rw[e,Qp] at h
 simp at h
theorem Aam (x:Int) (k:Int) (hx:Bn x):∃r,Gc [.agg [.b,.s],.one .i] r/\AF Tryz.prog 133 [.lit (Ak x),.lit (.int .i64 k)] r:=by
 have hd:=hx.digits
 have h1:=oN x.natAbs k.toNat
 have h2:=oN 1 (0-k).toNat
 have h3:=Ue
 have h4:=Nat.two_pow_pos (0-k).toNat
 have h5:=Lp (decide (x<0)) x.natAbs (1*2^(0-k).toNat)
 refine Au func133 rfl ?_
 refine Ab 11 (gs (Ao (Ee x θ) ·) (Ab 12 (Hn 15 (k< -65536) (λhx1 hx1d=>?_) (λhx1 hx1d=>?_))))
 exact Ab 15 (Bb)
 refine Ab 5 (Hn 18 ((65536:Int)<k) (λhx2 hx2d=>?_) (λhx2 hx2d=>?_))
 exact Ab 10 (Bb)
 refine Ab 6 (gs (Ao (Da x θ) ·) (Ab 11 (Hn 23 ((0:Int)<=k) (λhx3 hx3d=>?_) (λhx3 hx3d=>?_))))
 exact Ab 2 (Dy (Nh (decide (x<0)) (x.natAbs*2^(k).toNat) ω) λv4 hv4=>(gs (Cp [(5,_,.none),(7,_,.none)] [4,5] ⟨Be (dX x.natAbs (k).toNat k ω ω ω),Be hv4,trivial⟩ ·) (Ab 3 (Bb))))
 exact Ab 4 (gs (Cp [(1,.osl 3 1 1,(.new 3 (.vec 158 1 1 (λ_=> .lit (.int .u64 1))))),(3,.int (0-k),.none),(4,Dw (1*2^(0-k).toNat),(.drop 3)),(6,_,.none)] [4,7] ⟨Eb (Ig 201 1 #[(0,(.const (.int .u64 1)))] κ underlying201 1 sizeOf158 _ zeroValue158 κ β β β 3 [.lit (.int .u64 1)] κ (λ_=> .lit (.int .u64 1)) κ),En (.int .i64 (IntKind.wrap .i64 (0-k))) (congrArg (Value.int .i64) (IntWalk.i64_in _ ω)),Eb (Gr 185 #[.tmp 36,.tmp 38] #[201,3] κ (λ_ _=>by kernel_rfl) 3 (.vec 158 1 1 (λ_=> .lit (.int .u64 1))) κ (λ_ _ _ _ h=>by cases h;exact(Ce λ_ _=>rfl)) [.osl 3 1 1,.int (0-k)] κ [.slc 1 1 (λ_=> .lit (.int .u64 1)),.int (0-k)] κ (Dw (1*2^(0-k).toNat)) (qR (0-k).toNat (0-k) ω ω)),Be (Jc (decide (x<0)) x.natAbs false (1*2^(0-k).toNat) ω ω ω),trivial⟩ ·) (Ab 4 (Dy (Nh (!decide ((decide (x<0))=false)) (Ev (decide (x<0)) x.natAbs (1*2^(0-k).toNat)) ω) λv5 hv5=>(gs (Ao hv5 ·) (Ab 7 (Bb))))))
theorem vE (a:Rw) (k:Int) (h:Jk a=false):∃r,Gc [.agg [.b,.s],.one .i] r/\AF Tryz.prog 133 [Fx a,.int k] r:=by
 refine Au func133 rfl ?_
 exact Ab 11 (gs (Ao (Gq a) ·) (Ab 3 (iA 11 (!Jk a) true (by rw[h];rfl) (Ab 10 (Bb)))))
theorem Aal (a:Rw) (k:Int):∃r,Gc [.agg [.b,.s],.one .i] r/\AF Tryz.prog 133 [Fx a,.int k] r:=by
 cases h:Jk a with
 |false=>exact vE a k h
 |true=>
  obtain⟨x,hx,ex⟩:=Ls h
  rw[ex]
  exact Aam x k hx
noncomputable def AiR (a:Rw) (k:Int):Value:=Kp 133 [.agg [.b,.s],.one .i] [Fx a,.int k]
theorem wR (a:Rw) (k:Int):AF Tryz.prog 133 [Fx a,.int k] (.lit (Hp [.agg [.b,.s],.one .i] (AiR a k))):=Bi (Aal a k)
theorem Adk (b:Bool) (n:Nat) (c:Bool) (k:Nat) (h0:0<k/\(Al n).length<=5000/\(Al k).length<=5000):∃r,Gc [.agg [.b,.s,.b,.s],.one .i] r/\AF Tryz.prog 187 [Di b n,Di c k] r:=by
 have hg:0<Nat.gcd n k:=Nat.gcd_pos_of_pos_right n h0.1
 have hg1:=oM (n:=n) h0.1
 have hq1:=Lp b n (Nat.gcd n k)
 have hq2:=Lp c k (Nat.gcd n k)
 refine Au func187 rfl ?_
 refine Ab 9 (gs (Cp [(6,_,.none)] [2,3,4,6] ⟨Be (cR n k ω ω),trivial⟩ ·) (Ab 5 (gs (Ao (Jc b n c (Nat.gcd n k) ω ω ω) ·) (Ab 10 (gs (Ao (Jc c k c (Nat.gcd n k) ω ω ω) ·) (Ab 9 (Dy (Nh (!decide (b=c)) (Ev b n (Nat.gcd n k)) ω) λv1 hv1=>(gs (Ao hv1 ·) (Ab 11 (Dy (Nh (!decide (c=c)) (Ev c k (Nat.gcd n k)) ω) λv2 hv2=>(gs (Ao hv2 ·) (Ab 14 (Ew 43 ?_ ?_)))))))))))))
 exact Ab 15 (Bb)
 refine Ab 5 (Ew 46 ?_ ?_)
 exact Ab 10 (Bb)
 exact Ab 13 (Bb)
noncomputable def Akv (b:Bool) (n:Nat) (c:Bool) (k:Nat):Value:=Kp 187 [.agg [.b,.s,.b,.s],.one .i] [Di b n,Di c k]
theorem Zk (b:Bool) (n:Nat) (c:Bool) (k:Nat) (h0:0<k/\(Al n).length<=5000/\(Al k).length<=5000):AF Tryz.prog 187 [Di b n,Di c k] (.lit (Hp [.agg [.b,.s,.b,.s],.one .i] (Akv b n c k))):=Bi (Adk b n c k h0)
theorem Ae6 (x y:Int) (hx:Bn x) (hy:Bn y):∃r,Gc [.agg [.b,.s,.b,.s],.one .i] r/\AF Tryz.prog 135 [.lit (Ak x),.lit (Ak y)] r:=by
 have hd:=hx.digits
 have he:=hy.digits
 refine Au func135 rfl ?_
 refine Ab 13 (gs (Ao (Hz x y θ θ) ·) (Ab 11 (gs (Cz (.bool ((Ci y.natAbs).toList==(⟨#[]⟩:ByteArray).toList)) (.bool ((Ci y.natAbs).toList==(⟨#[]⟩:ByteArray).toList)) ·) (Ab 2 (tsb 13 ((Ci y.natAbs).toList==(⟨#[]⟩:ByteArray).toList) (λhx1=>?_) (λhx1=>?_))))))
 exact Ab 10 (Bb)
 refine Ab 3 ?_
 have hp:=Aa8 hx1
 exact Ab 1 (Dy (Zk (decide (x<0)) x.natAbs (decide (y<0)) y.natAbs ω) λv2 hv2=>(gs (Cp [(1,_,.none),(3,_,.none),(4,_,.none)] [4,5] ⟨Be (Da x θ),Be (Da y θ),Be hv2,trivial⟩ ·) (Ab 2 (Bb))))
theorem Aak (a:Rw) (b:Rw) (h:(Jk a&&Jk b)=false):∃r,Gc [.agg [.b,.s,.b,.s],.one .i] r/\AF Tryz.prog 135 [Fx a,Fx b] r:=by
 refine Au func135 rfl ?_
 exact Ab 13 (gs (Ao (Qk a b) ·) (Ab 3 (iA 9 (!(Jk a&&Jk b)) true (by rw[h];rfl) (Ab 10 (Bb)))))
theorem Ae5 (a:Rw) (b:Rw):∃r,Gc [.agg [.b,.s,.b,.s],.one .i] r/\AF Tryz.prog 135 [Fx a,Fx b] r:=by
 cases h:(Jk a&&Jk b) with
 |false=>exact Aak a b h
 |true=>
  obtain⟨h1,h2⟩:=Bool.and_eq_true_iff.1 h
  obtain⟨x,hx,ex⟩:=Ls h1
  obtain⟨y,hy,ey⟩:=Ls h2
  rw[ex,ey]
  exact Ae6 x y hx hy
noncomputable def Al7 (a:Rw) (b:Rw):Value:=Kp 135 [.agg [.b,.s,.b,.s],.one .i] [Fx a,Fx b]
theorem Zm (a:Rw) (b:Rw):AF Tryz.prog 135 [Fx a,Fx b] (.lit (Hp [.agg [.b,.s,.b,.s],.one .i] (Al7 a b))):=Bi (Ae5 a b)
structure Rr where
 num:Rw
 den:Rw
abbrev Cq (r:Rr):AV:= .lit (.agg #[.bool r.num.neg,.string r.num.mag,.bool r.den.neg,.string r.den.mag])
abbrev Iu (x y:Int):AV:= .lit (.agg #[.bool (decide (x<0)),.string (Ci x.natAbs),.bool (decide (y<0)),.string (Ci y.natAbs)])
def Vt (r:Rr):Prop:=∃x y,Bn x/\Bn y/\0<y/\Cq r=Iu x y
noncomputable def Uj (r:Rr):Bool:=bP (Vt r)
theorem Ail {y:Int} (h:0<y):decide ((0:Int)<y.sign)=true:=decide_eq_true (by rw[Int.sign_eq_one_of_pos h];decide)
theorem AdZ {y:Int} (h:¬0<y):decide ((0:Int)<y.sign)=false:=decide_eq_false λg=>by
 by_cases h0:y=0
 subst h0;exact absurd g δ
 rw[Int.sign_eq_neg_one_of_neg ω] at g;exact absurd g δ
theorem Nj (x y:Int) (hx:Bn x) (hy:Bn y) (hp:0<y):AF Tryz.prog 223 [Iu x y] (.bool true):=by
 have hz:=Ail hp
 refine As func223 rfl λB D0 hA0=>?_
 exact Ae 12 (Ao (Hz x y θ θ) (Ae 3 (Ao (Nk y θ) (Ae 6 (Fd (.bool (decide ((0:Int)<(y).sign))) (congrArg AV.bool hz))))))
theorem wO (x y:Int) (hx:Bn x) (hy:Bn y) (hp:¬0<y):AF Tryz.prog 223 [Iu x y] (.bool false):=by
 have hz:=AdZ hp
 refine As func223 rfl λB D0 hA0=>?_
 exact Ae 12 (Ao (Hz x y θ θ) (Ae 3 (Ao (Nk y θ) (Ae 6 (Fd (.bool (decide ((0:Int)<(y).sign))) (congrArg AV.bool hz))))))
theorem wN (r:Rr) (h:(Jk r.num&&Jk r.den)=false):AF Tryz.prog 223 [Cq r] (.bool false):=by
 refine As func223 rfl λB D0 hA0=>?_
 exact Ae 12 (Ao (Qk r.num r.den) (Ae 1 (Jb 8 (Jk r.num&&Jk r.den) false h (Ae 9 (Ck)))))
theorem AoU {r:Rr} {x y:Int} (h1:Fx r.num=WA x) (h2:Fx r.den=WA y):Cq r=Iu x y:=by
 have e1:Value.agg #[.bool r.num.neg,.string r.num.mag]=Ak x:=AV.lit.inj h1
 have e2:Value.agg #[.bool r.den.neg,.string r.den.mag]=Ak y:=AV.lit.inj h2
 unfold Ak at e1 e2
 simp only[Value.agg.injEq,Array.mk.injEq,List.cons.injEq,Value.bool.injEq,Value.string.injEq,and_true] at e1 e2
 unfold Cq Iu
 rw[e1.1,e1.2,e2.1,e2.2]
theorem We (r:Rr):AF Tryz.prog 223 [Cq r] (.bool (Uj r)):=by
 by_cases hr:Vt r
 have e:Uj r=true:=cW hr
 rw[e]
 obtain⟨x,y,hx,hy,hp,e⟩:=hr
 rw[e]
 exact Nj x y hx hy hp
 have e:Uj r=false:=Gh hr
 rw[e]
 cases h:(Jk r.num&&Jk r.den) with
 |false=>exact wN r h
 |true=>
  obtain⟨h1,h2⟩:=Bool.and_eq_true_iff.1 h
  obtain⟨x,hx,ex⟩:=Ls h1
  obtain⟨y,hy,ey⟩:=Ls h2
  have e2:=AoU ex ey
  rw[e2]
  exact wO x y hx hy λhp=>hr ⟨x,y,hx,hy,hp,e2⟩
theorem Wt {r:Rr} (h:Uj r=true):Vt r:=Aa7 h
theorem Xh (a b:Rr):AF Tryz.prog 196 [Cq a,Cq b] (.bool (Uj a&&Uj b)):=by
 refine As func196 rfl λB D0 hA0=>?_
 refine Ae 10 (Ao (We a) (Ae 1 (vsb 7 (Uj a) (λhx1=>?_) (λhx1=>?_))))
 ·
  exact Ae 1 (Ao (We b) (Ae 5 (Fd (.bool (Uj b)) (congrArg AV.bool (by rw[hx1];rfl)))))
 ·
  exact Ae 7 (Fd (.bool false) (congrArg AV.bool (by rw[hx1];rfl)))
theorem Tg (x y u v:Int) (hx:Bn x) (hy:Bn y) (hu:Bn u) (hv:Bn v) (hyp:0<y) (hvp:0<v):AF Tryz.prog 196 [Iu x y,Iu u v] (.bool true):=by
 refine As func196 rfl λB D0 hA0=>?_
 exact Ae 10 (Ao (Nj x y θ θ θ) (Ae 2 (Ao (Nj u v θ θ θ) (Ae 5 (Ck)))))
theorem Og (x y u v:Int) (hx:Bn x) (hy:Bn y) (hu:Bn u) (hv:Bn v):AF Tryz.prog 197 [Iu x y,Iu u v] (.tup [Di (!decide (decide (x<0)=decide (v<0))) (x.natAbs*v.natAbs),Di (!decide (decide (u<0)=decide (y<0))) (u.natAbs*y.natAbs),Di (!decide (decide (y<0)=decide (v<0))) (y.natAbs*v.natAbs)]):=by
 have d1:=hx.digits
 have d2:=hy.digits
 have d3:=hu.digits
 have d4:=hv.digits
 refine As func197 rfl λB D0 hA0=>?_
 exact Ae 10 (Cp [(2,_,.none),(5,_,.none),(6,_,.none),(9,_,.none),(12,_,.none),(13,_,.none),(16,_,.none),(19,_,.none),(20,_,.none)] [4,5,6] ⟨Be (Da x θ),Be (Da v θ),Be (Qm (decide (x<0)) x.natAbs (decide (v<0)) v.natAbs ω ω),Be (Da u θ),Be (Da y θ),Be (Qm (decide (u<0)) u.natAbs (decide (y<0)) y.natAbs ω ω),Be (Da y θ),Be (Da v θ),Be (Qm (decide (y<0)) y.natAbs (decide (v<0)) v.natAbs ω ω),trivial⟩ (Ae 2 (Ck)))
theorem AkS (x y u v:Int) (hx:Bn x) (hy:Bn y) (hu:Bn u) (hv:Bn v) (hyp:0<y) (hvp:0<v):∃r,Gc [.one .i,.one .i] r/\AF Tryz.prog 142 [Iu x y,Iu u v] r:=by
 have d1:=hx.digits
 have d2:=hy.digits
 have d3:=hu.digits
 have d4:=hv.digits
 have p1:=Ey x.natAbs v.natAbs
 have p2:=Ey u.natAbs y.natAbs
 have p3:=Ey y.natAbs v.natAbs
 have p4:=Ey x.natAbs u.natAbs
 have p5:=Ie (!decide (decide (x<0)=decide (v<0))) (x.natAbs*v.natAbs) (!decide (decide (u<0)=decide (y<0))) (u.natAbs*y.natAbs)
 have p6:=Ie (!decide (decide (x<0)=decide (v<0))) (x.natAbs*v.natAbs) (!!decide (decide (u<0)=decide (y<0))) (u.natAbs*y.natAbs)
 have p7:0<y.natAbs*v.natAbs:=Nat.mul_pos ω ω
 refine Au func142 rfl ?_
 exact Ab 13 (gs (Ao (Tg x y u v θ θ θ θ θ θ) ·) (Ab 10 (gs (Ao (Og x y u v θ θ θ θ) ·) (Ab 13 (Dy (Afl (Nn (!decide (decide (x<0)=decide (v<0))) (x.natAbs*v.natAbs) (!(!decide (decide (u<0)=decide (y<0)))) (u.natAbs*y.natAbs)) (Lv (!decide (decide (x<0)=decide (v<0))) (x.natAbs*v.natAbs) (!(!decide (decide (u<0)=decide (y<0)))) (u.natAbs*y.natAbs))) λv1 hv1=>(gs (Cp [(2,_,.none),(3,_,.none),(4,_,.none)] [4,5] ⟨Be (Vd (!decide (decide (u<0)=decide (y<0))) (u.natAbs*y.natAbs)),Be (Nf (!decide (decide (x<0)=decide (v<0))) (x.natAbs*v.natAbs) (!(!decide (decide (u<0)=decide (y<0)))) (u.natAbs*y.natAbs) ω ω),Be hv1,trivial⟩ ·) (Ab 2 (Bb))))))))
theorem AhS (a:Rr) (b:Rr) (h:(Uj a&&Uj b)=false):∃r,Gc [.one .i,.one .i] r/\AF Tryz.prog 142 [Cq a,Cq b] r:=by
 refine Au func142 rfl ?_
 exact Ab 13 (gs (Ao (Xh a b) ·) (Ab 3 (iA 12 (!(Uj a&&Uj b)) true (by rw[h];rfl) (Ab 9 (Bb)))))
theorem AkR (a:Rr) (b:Rr):∃r,Gc [.one .i,.one .i] r/\AF Tryz.prog 142 [Cq a,Cq b] r:=by
 cases h:(Uj a&&Uj b) with
 |false=>exact AhS a b h
 |true=>
  obtain⟨h1,h2⟩:=Bool.and_eq_true_iff.1 h
  obtain⟨x,y,hx,hy,hyp,ex⟩:=Wt h1
  obtain⟨u,v,hu,hv,hvp,ey⟩:=Wt h2
  rw[ex,ey]
  exact AkS x y u v hx hy hu hv hyp hvp
noncomputable def AoO (a:Rr) (b:Rr):Value:=Kp 142 [.one .i,.one .i] [Cq a,Cq b]
theorem Ajy (a:Rr) (b:Rr):AF Tryz.prog 142 [Cq a,Cq b] (.lit (Hp [.one .i,.one .i] (AoO a b))):=Bi (AkR a b)
theorem AkP (x y u v:Int) (hx:Bn x) (hy:Bn y) (hu:Bn u) (hv:Bn v) (hyp:0<y) (hvp:0<v):∃r,Gc [.agg [.b,.s,.b,.s],.one .i] r/\AF Tryz.prog 149 [Iu x y,Iu u v] r:=by
 have d1:=hx.digits
 have d2:=hy.digits
 have d3:=hu.digits
 have d4:=hv.digits
 have p1:=Ey x.natAbs v.natAbs
 have p2:=Ey u.natAbs y.natAbs
 have p3:=Ey y.natAbs v.natAbs
 have p4:=Ey x.natAbs u.natAbs
 have p5:=Ie (!decide (decide (x<0)=decide (v<0))) (x.natAbs*v.natAbs) (!decide (decide (u<0)=decide (y<0))) (u.natAbs*y.natAbs)
 have p6:=Ie (!decide (decide (x<0)=decide (v<0))) (x.natAbs*v.natAbs) (!!decide (decide (u<0)=decide (y<0))) (u.natAbs*y.natAbs)
 have p7:0<y.natAbs*v.natAbs:=Nat.mul_pos ω ω
 refine Au func149 rfl ?_
 exact Ab 13 (gs (Ao (Tg x y u v θ θ θ θ θ θ) ·) (Ab 10 (gs (Ao (Og x y u v θ θ θ θ) ·) (Ab 13 (Dy (Zk (Nn (!decide (decide (x<0)=decide (v<0))) (x.natAbs*v.natAbs) (!decide (decide (u<0)=decide (y<0))) (u.natAbs*y.natAbs)) (Lv (!decide (decide (x<0)=decide (v<0))) (x.natAbs*v.natAbs) (!decide (decide (u<0)=decide (y<0))) (u.natAbs*y.natAbs)) (!decide (decide (y<0)=decide (v<0))) (y.natAbs*v.natAbs) ω) λv1 hv1=>(gs (Cp [(2,_,.none),(4,_,.none)] [4,5] ⟨Be (Nf (!decide (decide (x<0)=decide (v<0))) (x.natAbs*v.natAbs) (!decide (decide (u<0)=decide (y<0))) (u.natAbs*y.natAbs) ω ω),Be hv1,trivial⟩ ·) (Ab 2 (Bb))))))))
theorem AhR (a:Rr) (b:Rr) (h:(Uj a&&Uj b)=false):∃r,Gc [.agg [.b,.s,.b,.s],.one .i] r/\AF Tryz.prog 149 [Cq a,Cq b] r:=by
 refine Au func149 rfl ?_
 exact Ab 13 (gs (Ao (Xh a b) ·) (Ab 3 (iA 12 (!(Uj a&&Uj b)) true (by rw[h];rfl) (Ab 10 (Bb)))))
theorem AkO (a:Rr) (b:Rr):∃r,Gc [.agg [.b,.s,.b,.s],.one .i] r/\AF Tryz.prog 149 [Cq a,Cq b] r:=by
 cases h:(Uj a&&Uj b) with
 |false=>exact AhR a b h
 |true=>
  obtain⟨h1,h2⟩:=Bool.and_eq_true_iff.1 h
  obtain⟨x,y,hx,hy,hyp,ex⟩:=Wt h1
  obtain⟨u,v,hu,hv,hvp,ey⟩:=Wt h2
  rw[ex,ey]
  exact AkP x y u v hx hy hu hv hyp hvp
noncomputable def AoN (a:Rr) (b:Rr):Value:=Kp 149 [.agg [.b,.s,.b,.s],.one .i] [Cq a,Cq b]
theorem mW (a:Rr) (b:Rr):AF Tryz.prog 149 [Cq a,Cq b] (.lit (Hp [.agg [.b,.s,.b,.s],.one .i] (AoN a b))):=Bi (AkO a b)
theorem AkX (x y u v:Int) (hx:Bn x) (hy:Bn y) (hu:Bn u) (hv:Bn v) (hyp:0<y) (hvp:0<v):∃r,Gc [.agg [.b,.s,.b,.s],.one .i] r/\AF Tryz.prog 150 [Iu x y,Iu u v] r:=by
 have d1:=hx.digits
 have d2:=hy.digits
 have d3:=hu.digits
 have d4:=hv.digits
 have p1:=Ey x.natAbs v.natAbs
 have p2:=Ey u.natAbs y.natAbs
 have p3:=Ey y.natAbs v.natAbs
 have p4:=Ey x.natAbs u.natAbs
 have p5:=Ie (!decide (decide (x<0)=decide (v<0))) (x.natAbs*v.natAbs) (!decide (decide (u<0)=decide (y<0))) (u.natAbs*y.natAbs)
 have p6:=Ie (!decide (decide (x<0)=decide (v<0))) (x.natAbs*v.natAbs) (!!decide (decide (u<0)=decide (y<0))) (u.natAbs*y.natAbs)
 have p7:0<y.natAbs*v.natAbs:=Nat.mul_pos ω ω
 refine Au func150 rfl ?_
 exact Ab 13 (gs (Ao (Tg x y u v θ θ θ θ θ θ) ·) (Ab 7 (Dy (Zk (!decide ((decide (x<0))=(decide (u<0)))) (x.natAbs*u.natAbs) (!decide ((decide (y<0))=(decide (v<0)))) (y.natAbs*v.natAbs) ω) λv1 hv1=>(gs (Cp [(2,_,.none),(5,_,.none),(6,_,.none),(9,_,.none),(12,_,.none),(13,_,.none),(14,_,.none)] [4,5] ⟨Be (Da x θ),Be (Da u θ),Be (Qm (decide (x<0)) x.natAbs (decide (u<0)) u.natAbs ω ω),Be (Da y θ),Be (Da v θ),Be (Qm (decide (y<0)) y.natAbs (decide (v<0)) v.natAbs ω ω),Be hv1,trivial⟩ ·) (Ab 2 (Bb))))))
theorem AhX (a:Rr) (b:Rr) (h:(Uj a&&Uj b)=false):∃r,Gc [.agg [.b,.s,.b,.s],.one .i] r/\AF Tryz.prog 150 [Cq a,Cq b] r:=by
 refine Au func150 rfl ?_
 exact Ab 13 (gs (Ao (Xh a b) ·) (Ab 3 (iA 9 (!(Uj a&&Uj b)) true (by rw[h];rfl) (Ab 10 (Bb)))))
theorem AkW (a:Rr) (b:Rr):∃r,Gc [.agg [.b,.s,.b,.s],.one .i] r/\AF Tryz.prog 150 [Cq a,Cq b] r:=by
 cases h:(Uj a&&Uj b) with
 |false=>exact AhX a b h
 |true=>
  obtain⟨h1,h2⟩:=Bool.and_eq_true_iff.1 h
  obtain⟨x,y,hx,hy,hyp,ex⟩:=Wt h1
  obtain⟨u,v,hu,hv,hvp,ey⟩:=Wt h2
  rw[ex,ey]
  exact AkX x y u v hx hy hu hv hyp hvp
noncomputable def AoS (a:Rr) (b:Rr):Value:=Kp 150 [.agg [.b,.s,.b,.s],.one .i] [Cq a,Cq b]
theorem mX (a:Rr) (b:Rr):AF Tryz.prog 150 [Cq a,Cq b] (.lit (Hp [.agg [.b,.s,.b,.s],.one .i] (AoS a b))):=Bi (AkW a b)
theorem AdP (x y:Int) (hx:Bn x) (hy:Bn y) (hyp:0<y):∃r,Gc [.agg [.b,.s],.one .i] r/\AF Tryz.prog 188 [Iu x y] r:=by
 have hd:=hx.digits
 have he:=hy.digits
 have p5:=Lp (decide (x<0)) x.natAbs y.natAbs
 refine Au func188 rfl ?_
 exact Ab 11 (gs (Ao (Nj x y θ θ θ) ·) (Ab 7 (gs (Cp [(2,_,.none),(5,_,.none),(6,_,.none)] [2,4] ⟨Be (Da x θ),Be (Da y θ),Be (Jc (decide (x<0)) x.natAbs (decide (y<0)) y.natAbs ω ω ω),trivial⟩ ·) (Ab 4 (Dy (Nh (!decide ((decide (x<0))=(decide (y<0)))) (Ev (decide (x<0)) x.natAbs y.natAbs) ω) λv1 hv1=>(gs (Ao hv1 ·) (Ab 7 (Bb))))))))
theorem zP (a:Rr) (h:Uj a=false):∃r,Gc [.agg [.b,.s],.one .i] r/\AF Tryz.prog 188 [Cq a] r:=by
 refine Au func188 rfl ?_
 exact Ab 11 (gs (Ao (We a) ·) (Ab 3 (iA 8 (!Uj a) true (by rw[h];rfl) (Ab 10 (Bb)))))
theorem AdO (a:Rr):∃r,Gc [.agg [.b,.s],.one .i] r/\AF Tryz.prog 188 [Cq a] r:=by
 cases h:Uj a with
 |false=>exact zP a h
 |true=>
  obtain⟨x,y,hx,hy,hyp,ex⟩:=Wt h
  rw[ex]
  exact AdP x y hx hy hyp
noncomputable def AkV (a:Rr):Value:=Kp 188 [.agg [.b,.s],.one .i] [Cq a]
theorem Aca (a:Rr):AF Tryz.prog 188 [Cq a] (.lit (Hp [.agg [.b,.s],.one .i] (AkV a))):=Bi (AdO a)
theorem Ae1 (a:Rw) (h:Jk a=false):∃r,Gc [.one .i,.one .i] r/\AF Tryz.prog 189 [Fx a] r:=by
 refine Au func189 rfl ?_
 exact Ab 11 (gs (Ao (Gq a) ·) (Ab 3 (iA 7 (!Jk a) true (by rw[h];rfl) (Ab 9 (Bb)))))
theorem AiH (a:Rw):∃r,Gc [.one .i,.one .i] r/\AF Tryz.prog 189 [Fx a] r:=by
 cases h:Jk a with
 |false=>exact Ae1 a h
 |true=>
  obtain⟨x,hx,ex⟩:=Ls h
  rw[ex]
  exact⟨.lit (.tuple #[.int .i64 (iR x),.int .i64 (iE x)]),rfl,qX x hx⟩
noncomputable def AnS (a:Rw):Value:=Kp 189 [.one .i,.one .i] [Fx a]
theorem Afx (a:Rw):AF Tryz.prog 189 [Fx a] (.lit (Hp [.one .i,.one .i] (AnS a))):=Bi (AiH a)
def Tz (x y:Int):Int:=(Nat.gcd x.natAbs y.natAbs:Int)
theorem AgP {x y:Int} (h:0<y):0<Nat.gcd x.natAbs y.natAbs:=Nat.gcd_pos_of_pos_right _ ω
theorem Aik (x:Int) {g:Nat} (hg:0<g):Dx (!decide (decide (x<0)=false)) (Ev (decide (x<0)) x.natAbs g)=x/(g:Int):=by
 have:=(Yz x (g:Int) ω).1
 rwa [show decide ((g:Int)<0)=false from decide_eq_false ω,Int.natAbs_natCast] at this
theorem Aij {y:Int} (hy:0<y) {g:Nat} (hg:0<g):Dx (!decide (false=false)) (Ev false y.natAbs g)=y/(g:Int):=by
 have:=(Yz y (g:Int) ω).1
 rwa [show decide ((g:Int)<0)=false from decide_eq_false ω,show decide (y<0)=false from decide_eq_false ω,Int.natAbs_natCast] at this
abbrev Ahv (x y:Int):Value:= .tuple #[.agg #[.bool (decide (x/Tz x y<0)),.string (Ci (x/Tz x y).natAbs),.bool (decide (y/Tz x y<0)),.string (Ci (y/Tz x y).natAbs)],.int .i64 0]
theorem wI (x y:Int) (hx:Bn x) (hy:Bn y) (hp:0<y):AF Tryz.prog 187 [Di (decide (x<0)) x.natAbs,Di false y.natAbs] (.lit (Ahv x y)):=by
 have hd:=hx.digits
 have he:=hy.digits
 have hg:=AgP (x:=x) hp
 have h1:=tD x.natAbs y.natAbs
 have h2:=Lp (decide (x<0)) x.natAbs (Nat.gcd x.natAbs y.natAbs)
 have h3:=Lp false y.natAbs (Nat.gcd x.natAbs y.natAbs)
 have z1:Dx (!decide ((decide (x<0))=false)) (Ev (decide (x<0)) x.natAbs (Nat.gcd x.natAbs y.natAbs))=x/Tz x y:=Aik x hg
 have z2:Dx (!decide (false=false)) (Ev false y.natAbs (Nat.gcd x.natAbs y.natAbs))=y/Tz x y:=Aij hp hg
 have f1:Bn (x/Tz x y):=Rv hx
 have f2:Bn (y/Tz x y):=Rv hy
 have e1:decide ((Iv (Dx (!decide ((decide (x<0))=false)) (Ev (decide (x<0)) x.natAbs (Nat.gcd x.natAbs y.natAbs))))=0)=true:=decide_eq_true (by rw[z1];exact Jz f1)
 have e2:decide ((Iv (Dx (!decide (false=false)) (Ev false y.natAbs (Nat.gcd x.natAbs y.natAbs))))=0)=true:=decide_eq_true (by rw[z2];exact Jz f2)
 refine As func187 rfl λB D0 hA0=>?_
 exact Ae 9 (Cp [(6,_,.none)] [2,3,4,6] ⟨Be (cR x.natAbs y.natAbs ω ω),trivial⟩ (Ae 5 (Ao (Jc (decide (x<0)) x.natAbs false (Nat.gcd x.natAbs y.natAbs) ω ω ω) (Ae 10 (Ao (Jc false y.natAbs false (Nat.gcd x.natAbs y.natAbs) ω ω ω) (Ae 9 (Ao (Fl (!decide ((decide (x<0))=false)) (Ev (decide (x<0)) x.natAbs (Nat.gcd x.natAbs y.natAbs)) ω) (Ae 11 (Ao (Fl (!decide (false=false)) (Ev false y.natAbs (Nat.gcd x.natAbs y.natAbs)) ω) (Ae 14 (Jb 43 (!decide (Iv (Dx (!decide ((decide (x<0))=false)) (Ev (decide (x<0)) x.natAbs (Nat.gcd x.natAbs y.natAbs)))=0)) false (by rw[e1];rfl) (Ae 5 (Jb 46 (!decide (Iv (Dx (!decide (false=false)) (Ev false y.natAbs (Nat.gcd x.natAbs y.natAbs)))=0)) false (by rw[e2];rfl) (Ae 13 (Fd (.lit (.tuple #[.agg #[.bool (decide (Hi (Dx (!decide ((decide (x<0))=false)) (Ev (decide (x<0)) x.natAbs (Nat.gcd x.natAbs y.natAbs)))<0)),.string (Ci (Hi (Dx (!decide ((decide (x<0))=false)) (Ev (decide (x<0)) x.natAbs (Nat.gcd x.natAbs y.natAbs)))).natAbs),.bool (decide (Hi (Dx (!decide (false=false)) (Ev false y.natAbs (Nat.gcd x.natAbs y.natAbs)))<0)),.string (Ci (Hi (Dx (!decide (false=false)) (Ev false y.natAbs (Nat.gcd x.natAbs y.natAbs)))).natAbs)],.int .i64 0])) (by rw[z1,z2,Gf f1,Gf f2]))))))))))))))))
theorem wJ (x y:Int) (hx:Bn x) (hy:Bn y) (hp:0<y):AF Tryz.prog 187 [Di (decide (x<0)) x.natAbs,Di (decide (y<0)) y.natAbs] (.lit (Ahv x y)):=by
 have h:=wI x y hx hy hp
 rw[show decide (y<0)=false from decide_eq_false ω]
 exact h
theorem Wf (x y:Int) (hx:Bn x) (hy:Bn y) (hp:0<y):AF Tryz.prog 135 [WA x,WA y] (.lit (Ahv x y)):=by
 have hb:((Ci y.natAbs).toList==(⟨#[]⟩:ByteArray).toList)=false:=xF ω
 refine As func135 rfl λB D0 hA0=>?_
 refine Ae 13 (Ao (Hz x y θ θ) (Ae 11 (Cz (.bool ((Ci y.natAbs).toList==(⟨#[]⟩:ByteArray).toList)) (.bool false) ?_ (congrArg Value.bool hb))))
 exact Ae 6 (Cp [(1,_,.none),(3,_,.none),(4,_,.none)] [4,5] ⟨Be (Da x θ),Be (Da y θ),Be (wJ x y hx hy hp),trivial⟩ (Ae 2 (Ck)))
theorem Alg (b:Bool) (n:Nat):Dx (!b) n= -Dx b n:=by unfold Dx;cases b<;>simp
theorem Afq (x y u v:Int) (hx:Bn x) (hy:Bn y) (hu:Bn u) (hv:Bn v) (hyp:0<y) (hvp:0<v):AF Tryz.prog 142 [Iu x y,Iu u v] (.lit (.tuple #[.int .i64 (x*v-u*y).sign,.int .i64 0])):=by
 have d1:=hx.digits
 have d2:=hy.digits
 have d3:=hu.digits
 have d4:=hv.digits
 have p1:=Ey x.natAbs v.natAbs
 have p2:=Ey u.natAbs y.natAbs
 have p5:=Ie (!decide (decide (x<0)=decide (v<0))) (x.natAbs*v.natAbs) (!(!decide (decide (u<0)=decide (y<0)))) (u.natAbs*y.natAbs)
 have z:Dx (Nn (!decide (decide (x<0)=decide (v<0))) (x.natAbs*v.natAbs) (!(!decide (decide (u<0)=decide (y<0)))) (u.natAbs*y.natAbs)) (Lv (!decide (decide (x<0)=decide (v<0))) (x.natAbs*v.natAbs) (!(!decide (decide (u<0)=decide (y<0)))) (u.natAbs*y.natAbs))=x*v-u*y:=by rw[pP,gR,Alg,gR];omega
 refine As func142 rfl λB D0 hA0=>?_
 exact Ae 13 (Ao (Tg x y u v hx hy hu hv hyp hvp) (Ae 10 (Ao (Og x y u v hx hy hu hv) (Ae 13 (Cp [(2,_,.none),(3,_,.none),(4,_,.none)] [4,5] ⟨Be (Vd (!decide (decide (u<0)=decide (y<0))) (u.natAbs*y.natAbs)),Be (Nf (!decide (decide (x<0)=decide (v<0))) (x.natAbs*v.natAbs) (!(!decide (decide (u<0)=decide (y<0)))) (u.natAbs*y.natAbs) ω ω),Be (Zl (Nn (!decide (decide (x<0)=decide (v<0))) (x.natAbs*v.natAbs) (!(!decide (decide (u<0)=decide (y<0)))) (u.natAbs*y.natAbs)) (Lv (!decide (decide (x<0)=decide (v<0))) (x.natAbs*v.natAbs) (!(!decide (decide (u<0)=decide (y<0)))) (u.natAbs*y.natAbs)) ω),trivial⟩ (Ae 2 (Fd (.lit (.tuple #[.int .i64 ((Dx (Nn (!decide (decide (x<0)=decide (v<0))) (x.natAbs*v.natAbs) (!(!decide (decide (u<0)=decide (y<0)))) (u.natAbs*y.natAbs)) (Lv (!decide (decide (x<0)=decide (v<0))) (x.natAbs*v.natAbs) (!(!decide (decide (u<0)=decide (y<0)))) (u.natAbs*y.natAbs))).sign),.int .i64 0])) (by rw[z]))))))))
theorem wK (x y:Int) (hx:Bn x) (hy:Bn y) (hp:0<y):AF Tryz.prog 188 [Iu x y] (.lit (.tuple #[Ak (x/y),.int .i64 0])):=by
 have hd:=hx.digits
 have he:=hy.digits
 have hm0:0<y.natAbs:=by omega
 have h1:=Lp (decide (x<0)) x.natAbs y.natAbs
 have z:=(Yz x y ω).1
 have f1:Bn (x/y):=Rv hx
 refine As func188 rfl λB D0 hA0=>?_
 exact Ae 11 (Ao (Nj x y hx hy hp) (Ae 7 (Cp [(2,_,.none),(5,_,.none),(6,_,.none)] [2,4] ⟨Be (Da x θ),Be (Da y θ),Be (Jc (decide (x<0)) x.natAbs (decide (y<0)) y.natAbs ω ω ω),trivial⟩ (Ae 4 (Ao (Fl (!decide ((decide (x<0))=(decide (y<0)))) (Ev (decide (x<0)) x.natAbs y.natAbs) ω) (Ae 7 (Fd (.lit (.tuple #[Ak (Hi (Dx (!decide ((decide (x<0))=(decide (y<0)))) (Ev (decide (x<0)) x.natAbs y.natAbs))),.int .i64 (Iv (Dx (!decide ((decide (x<0))=(decide (y<0)))) (Ev (decide (x<0)) x.natAbs y.natAbs)))])) (by rw[z,Gf f1,Jz f1]))))))))
theorem Alh (x:Int) (k:Nat):Dx (decide (x<0)) (x.natAbs*2^k)=x*((2^k:Nat):Int):=by
 have h:=Kh x
 unfold Dx at h ⊢
 by_cases hx:x<0
 rw[if_pos (by simpa using hx)] at h ⊢
 rw[Int.natCast_mul,<-Int.neg_mul,h]
 rw[if_neg (by simpa using hx)] at h ⊢
 rw[Int.natCast_mul,h]
theorem eD (x:Int) (k:Nat) (hx:Bn x) (hk:k<=60000) (hf:Bn (x*((2^k:Nat):Int))):AF Tryz.prog 133 [WA x,.int (k:Int)] (.lit (.tuple #[Ak (x*((2^k:Nat):Int)),.int .i64 0])):=by
 have hd:=hx.digits
 have h1:=oN x.natAbs k
 refine As func133 rfl λB D0 hA0=>?_
 exact Ae 11 (Ao (Ee x θ) (Ae 12 (Jb 15 (decide ((k:Int)< -65536)) false (decide_eq_false ω) (Ae 5 (Jb 18 (decide ((65536:Int)<(k:Int))) false (decide_eq_false ω) (Ae 6 (Ao (Da x θ) (Ae 11 (Jb 23 (decide ((0:Int)<=(k:Int))) true (decide_eq_true ω) (Ae 2 (Cp [(5,_,.none),(7,_,.none)] [4,5] ⟨Be (dX x.natAbs k (k:Int) rfl ω ω),Be (Fl (decide (x<0)) (x.natAbs*2^k) ω),trivial⟩ (Ae 3 (Fd (.lit (.tuple #[Ak (Hi (Dx (decide (x<0)) (x.natAbs*2^k))),.int .i64 (Iv (Dx (decide (x<0)) (x.natAbs*2^k)))])) (by rw[Alh,Gf hf,Jz hf]))))))))))))))
structure Ws where
 n:Nat
 f:Nat->Rw
abbrev Qj (l:Ws):AV:= .sl 2 l.n λi=>Fx (l.f i)
abbrev wsZ (n:Nat) (c:Nat->Int):Ws:=⟨n,λi=>⟨decide (c i<0),Ci (c i).natAbs⟩⟩
def Alz (g:Nat->Rw) (j:Nat) (r:Rw):Nat->Rw:=λk=>if k=j then r else g k
theorem Al0 (g:Nat->Rw) (j:Nat) (r:Rw) (k:Nat):(if k=j then Fx r else Fx (g k))=Fx (Alz g j r k):=by unfold Alz;by_cases h:k=j<;>simp[h]
theorem rw0:AV.lit (Ak 0)=Fx ⟨false,⟨#[]⟩⟩:=by
 show AV.lit (Ak 0)= .lit (.agg #[.bool false,.string ⟨#[]⟩])
 unfold Ak
 rw[show (0:Int).natAbs=0 from rfl,Qp];rfl
theorem AkH (s:Rw) (a:Rw) (k:Int):∃r,Gc [.agg [.b,.s]] r/\AF Tryz.prog 219 [Fx s,Fx a,.int k] r:=by
 refine Au func219 rfl ?_
 exact Ab 8 (Dy (Mh k) λv1 hv1=>(Dy (eC a (⟨(gB (gT v1 0)),(gS (gT v1 1))⟩)) λv2 hv2=>(gs (Cp [(2,_,.none),(3,_,.none)] [3,4,6] ⟨Be hv1,Be hv2,trivial⟩ ·) (Ab 5 (Dy (qV s (⟨(gB (gT (gT v2 0) 0)),(gS (gT (gT v2 0) 1))⟩)) λv3 hv3=>(gs (Ao hv3 ·) (Ab 13 (Bb))))))))
noncomputable def AoG (s:Rw) (a:Rw) (k:Int):Value:=Kp 219 [.agg [.b,.s]] [Fx s,Fx a,.int k]
theorem Ajx (s:Rw) (a:Rw) (k:Int):AF Tryz.prog 219 [Fx s,Fx a,.int k] (.lit (Hp [.agg [.b,.s]] (AoG s a k))):=Bi (AkH s a k)
theorem Al5 (n:Int) (k:Nat) (h0:k<=1000000):∃r,Gc [.one .i] r/\AF Tryz.prog 220 [.int n,.int (k:Int)] r:=by
 refine Au func220 rfl ?_
 refine Ab 18 (Vl [0,5,7,8] (λm s=>∃i w,m=k-i/\(i<=k)/\s=⟨[(0,.int n),(5,.int w),(7,.int (k:Int)),(8,.int (i:Int))],[],0,21⟩) (k-0) ⟨0,1,rfl,Nat.zero_le _,κ⟩ ?_)
 rintro _ _ ⟨i,w,rfl,hF,rfl⟩ hJ1
 refine Ab 6 (Hn 9 ((i:Int)<(k:Int)) (λhx1 hx1d=>?_) (λhx1 hx1d=>?_))
 exact Ab 18 (gs (Cv ((i:Int)+1) ((i+1:Nat):Int) ·) (gs (Apg (Ai (w*(Ai (n-(i:Int))))) ((i+1:Nat):Int) ω ·) (Ab 5 (gs (Cv ((i:Int)+1) ((i+1:Nat):Int) ·) (Ab 2 (mH [0,5,7,8] (hJ1 _ _ (by omega:k-(i+1)<k-i) ⟨i+1,(Ai (Int.tdiv (Ai (w*(Ai (n-(i:Int))))) ((i+1:Nat):Int))),rfl,ω,rfl⟩)))))))
 exact Ab 13 (Bb)
noncomputable def Apk (n:Int) (k:Nat):Value:=Kp 220 [.one .i] [.int n,.int (k:Int)]
theorem Aax (n:Int) (k:Nat) (h0:k<=1000000):AF Tryz.prog 220 [.int n,.int (k:Int)] (.lit (Hp [.one .i] (Apk n k))):=Bi (Al5 n k h0)
theorem AgN (l:Ws) (h0:l.n<=1000000):∃r,Gc [.one .i] r/\AF Tryz.prog 181 [Qj l] r:=by
 refine Au func181 rfl ?_
 refine Ab 19 (Vl [3,6,7,8] (λm s=>∃i w,m=l.n-i/\(i<=l.n)/\s=⟨[(3,.int w),(6,Qj l),(7,.int (l.n:Int)),(8,.int (i:Int))],[],0,18⟩) (l.n-0) ⟨0,0,rfl,Nat.zero_le _,κ⟩ ?_)
 rintro _ _ ⟨i,w,rfl,hF,rfl⟩ hJ1
 refine Ab 6 (Hn 9 ((i:Int)<(l.n:Int)) (λhx1 hx1d=>?_) (λhx1 hx1d=>?_))
 exact Ab 7 (gs (Gu i l.n ·) (Ab 8 (Dy (Afy (l.f i)) λv2 hv2=>(gs (Ao hv2 ·) (gs (Cu (.int (max w (gI v2))) .none (Jl (.tmp 12) (.tmp 14) #[3,3] κ w (gI v2) κ κ) ·) (Ab 5 (gs (Cv ((i:Int)+1) ((i+1:Nat):Int) ·) (Ab 2 (Fy [3,6,7,8] [] 0 [] trivial (hJ1 _ _ (by omega:l.n-(i+1)<l.n-i) ⟨i+1,(max w (gI v2)),rfl,ω,rfl⟩))))))))))
 exact Ab 13 (Bb)
noncomputable def AmL (l:Ws):Value:=Kp 181 [.one .i] [Qj l]
theorem qL (l:Ws) (h0:l.n<=1000000):AF Tryz.prog 181 [Qj l] (.lit (Hp [.one .i] (AmL l))):=Bi (AgN l h0)
instance:Nonempty Ws:=⟨⟨0,λ_=>⟨false,⟨#[]⟩⟩⟩⟩
theorem Anp (p:Ws) (d:Nat) (hp:p.n<=25) (hd:d<=24):∃r,(∃w:Ws,w.n=d+1/\r=Qj w)/\AF Tryz.prog 182 [Qj p,.int (d:Int)] r:=by
 refine Au func182 rfl ?_
 refine Ab 8 (gs (Cv ((d:Int)+1) ((d+1:Nat):Int) ·) (gs (Cu (.osl 0 2 (d+1)) (.new 0 (.vec 169 2 (d+1) (λ_=> .lit (Ak 0)))) (Qc 275 (.tmp 9) (.tmp 9) κ underlying275 2 24 (.agg #[.bool false,.string ⟨#[]⟩]) κ κ δ ((d+1:Nat):Int) (d+1) ω κ κ ω ω ω 0 (.lit (Ak 0)) κ) ·) (Ab 12 (gs (Xc 0 169 2 (d+1) (λ_=> .lit (Ak 0)) (λxi=>Fx ((λ_=>⟨false,⟨#[]⟩⟩) xi)) (λx9 hx9=>rw0) ·) (Vl [0,1,5,12,13] (λm s=>∃j g,m=d+1-j/\(j<=d+1)/\s=⟨[(0,Qj p),(1,.int (d:Int)),(5,.osl 0 2 (d+1)),(12,.int ((d+1:Nat):Int)),(13,.int (j:Int))],[(0,.vec 169 2 (d+1) (λxi=>Fx (g xi)))],1,48⟩) (d+1-0) ⟨0,(λ_=>⟨false,⟨#[]⟩⟩),rfl,Nat.zero_le _,κ⟩ ?_)))))
 rintro _ _ ⟨j,g,rfl,hF,rfl⟩ hJ1
 refine Ab 6 (Hn 14 ((j:Int)<((d+1:Nat):Int)) (λhx1 hx1d=>?_) (λhx1 hx1d=>?_))
 refine Ab 17 (Vl [0,1,5,6,7,12,13] (λm s=>∃i q,m=j+1-i/\(i<=j+1)/\s=⟨[(0,Qj p),(1,.int (d:Int)),(5,.osl 0 2 (d+1)),(6,.int (j:Int)),(7,.int (i:Int)),(12,.int ((d+1:Nat):Int)),(13,.int (j:Int))],[(0,.vec 169 2 (d+1) (λxi=>Fx (q xi)))],1,48⟩) (j+1-0) ⟨0,g,rfl,Nat.zero_le _,κ⟩ ?_)
 rintro _ _ ⟨i,q,rfl,hF,rfl⟩ hJ2
 refine Ab 7 (Hn 19 ((i:Int)<=(j:Int)) (λhx2 hx2d=>?_) (λhx2 hx2d=>?_))
 refine Ab 7 (Hn 24 ((i:Int)<(p.n:Int)) (λhx3 hx3d=>?_) (λhx3 hx3d=>?_))
 exact Ab 5 (Dy (Aax ((d-i:Nat):Int) (j-i) ω) λv4 hv4=>(Dy (Ajx (q j) (p.f i) (gI v4)) λv5 hv5=>(gs (Cp [(4,Cw (.osl 0 2 (d+1)) j,.none),(5,Fx (q j),(.read 0)),(8,Cw (Qj p) i,.none),(12,.int ((d-i:Nat):Int),.none),(15,.int ((j-i:Nat):Int),.none),(16,_,.none),(17,_,.none),(18,Cw (.osl 0 2 (d+1)) j,.none),(19,.lit Go.undef,(.set 0 (.vec 169 2 (d+1) (λxi=>if xi=j then .lit (.agg #[.bool (gB (gT v5 0)),.string (gS (gT v5 1))]) else (λxi=>Fx (q xi)) xi))))] [0,1,5,6,7,12,13] ⟨Jn j (d+1),Eb (Bg 169 (.tmp 31) κ isAgg169 2 sizeOf169 0 j κ 169 (d+1) (λxi=>Fx (q xi)) κ ω),Jn i p.n,En (.int .i64 (IntKind.wrap .i64 ((d:Int)-(i:Int)))) η,En (.int .i64 (IntKind.wrap .i64 ((j:Int)-(i:Int)))) η,Be hv4,Be hv5,Jn j (d+1),Eb (Gs 169 (.tmp 45) (.tmp 44) κ 2 sizeOf169 0 j κ 169 (d+1) (λxi=>Fx (q xi)) κ ω κ κ κ (.lit (.agg #[.bool (gB (gT v5 0)),.string (gS (gT v5 1))])) κ),trivial⟩ ·) (Ab 4 (gs (Cv ((i:Int)+1) ((i+1:Nat):Int) ·) (Ab 2 (gs (Xc 0 169 2 (d+1) (λxi=>if xi=j then .lit (.agg #[.bool (gB (gT v5 0)),.string (gS (gT v5 1))]) else (λxi=>Fx (q xi)) xi) (λxi=>Fx ((Alz q j (⟨(gB (gT v5 0)),(gS (gT v5 1))⟩)) xi)) (λx9 hx9=>Al0 q j (⟨(gB (gT v5 0)),(gS (gT v5 1))⟩) x9) ·) (mH [0,1,5,6,7,12,13] (hJ2 _ _ (by omega:j+1-(i+1)<j+1-i) ⟨i+1,(Alz q j (⟨(gB (gT v5 0)),(gS (gT v5 1))⟩)),rfl,ω,rfl⟩)))))))))
 exact Ab 8 (gs (Cv ((j:Int)+1) ((j+1:Nat):Int) ·) (Ab 2 (mH [0,1,5,12,13] (hJ1 _ _ (by omega:d+1-(j+1)<d+1-j) ⟨j+1,q,rfl,ω,rfl⟩))))
 exact Ab 15 (gs (Cv ((j:Int)+1) ((j+1:Nat):Int) ·) (Ab 2 (mH [0,1,5,12,13] (hJ1 _ _ (by omega:d+1-(j+1)<d+1-j) ⟨j+1,q,rfl,ω,rfl⟩))))
 exact Ab 12 (gs (iM 0 [4] 169 2 (d+1) (λxi=>Fx (g xi)) (Ce λ_ _=>rfl) ·) (Ab 1 (Nz ⟨⟨d+1,g⟩,rfl,rfl⟩)))
theorem AoC (p:Ws) (d:Nat) (hp:p.n<=25) (hd:d<=24):∃w:Ws,w.n=d+1/\AF Tryz.prog 182 [Qj p,.int (d:Int)] (Qj w):=by
 obtain⟨r,⟨w,h1,rfl⟩,h2⟩:=Anp p d hp hd
 exact⟨w,h1,h2⟩
theorem Ae7 (a:Rw):∃r,Gc [.one .i] r/\AF Tryz.prog 176 [Fx a] r:=by
 cases h:Jk a with
 |true=>
  obtain⟨x,hx,ex⟩:=Ls h
  rw[ex]
  exact⟨.int x.sign,rfl,Nk x hx⟩
 |false=>
  refine Au func176 rfl ?_
  exact Ab 10 (gs (Ao (Gq a) ·) (Ab 3 (iA 5 (!Jk a) true (by rw[h];rfl) (Ab 8 (Bb)))))
noncomputable def Al8 (a:Rw):Value:=Kp 176 [.one .i] [Fx a]
theorem Io (a:Rw):AF Tryz.prog 176 [Fx a] (.lit (Hp [.one .i] (Al8 a))):=Bi (Ae7 a)
theorem xH (l:Ws) (h0:l.n<=1000000):∃r,Gc [.one .b] r/\AF Tryz.prog 221 [Qj l,.fn 222 []] r:=by
 refine Au func221 rfl ?_
 refine Ab 9 (cE func241 (Ab 14 (Vl [0,1,7,8] (λm s=>∃q,m=l.n-q/\(q<=l.n)/\s=⟨[(0,Qj l),(1,.fn 222 []),(7,.int (l.n:Int)),(8,.int (q:Int))],[],0,19⟩) (l.n-0) ⟨0,rfl,Nat.zero_le _,κ⟩ ?_)))
 rintro _ _ ⟨q,rfl,hF,rfl⟩ hJ1
 refine Ab 6 (Hn 9 ((q:Int)<(l.n:Int)) (λhx2 hx2d=>?_) (λhx2 hx2d=>?_))
 refine Ab 16 (gs (Gu q l.n ·) (Ab 1 (uS func222 (Ab 9 (gs (Ao (Gq (l.f q)) ·) (Ab 5 (Iy (Ab 2 (Ew 16 ?_ ?_)))))))))
 exact Ab 13 (Iy (Ab 5 (Bb)))
 exact Ab 5 (gs (Cv ((q:Int)+1) ((q+1:Nat):Int) ·) (Ab 2 (Fy [0,1,7,8] [] 0 [] trivial (hJ1 _ _ (by omega:l.n-(q+1)<l.n-q) ⟨q+1,rfl,ω,rfl⟩))))
 exact Ab 12 (Iy (Ab 5 (Bb)))
noncomputable def Agb (l:Ws):Value:=Kp 221 [.one .b] [Qj l,.fn 222 []]
theorem vX (l:Ws) (h0:l.n<=1000000):AF Tryz.prog 221 [Qj l,.fn 222 []] (.lit (Hp [.one .b] (Agb l))):=Bi (xH l h0)
theorem Acs (l:Ws) (h0:l.n<=1000000):∃r,Gc [.one .b] r/\AF Tryz.prog 183 [Qj l] r:=by
 refine Au func183 rfl ?_
 refine Ab 11 (Hn 6 ((1:Int)<=(l.n:Int)) (λhx1 hx1d=>?_) (λhx1 hx1d=>?_))
 refine Ab 5 (Hn 11 ((l.n:Int)<=25) (λhx2 hx2d=>?_) (λhx2 hx2d=>?_))
 exact Ab 1 (Dy (vX l ω) λv3 hv3=>(gs (Ao hv3 ·) (Ab 6 (Bb))))
 exact Ab 8 (Bb)
 exact Ab 13 (Bb)
noncomputable def AjL (l:Ws):Value:=Kp 183 [.one .b] [Qj l]
theorem AbJ (l:Ws) (h0:l.n<=1000000):AF Tryz.prog 183 [Qj l] (.lit (Hp [.one .b] (AjL l))):=Bi (Acs l h0)
theorem AdH (l:Ws) (h0:l.n<=1000000):∃r,Gc [.one .b] r/\AF Tryz.prog 174 [Qj l] r:=by
 refine Au func174 rfl ?_
 refine Ab 14 (Vl [0,5,6,7] (λm s=>∃q,m=l.n-q/\(q<=l.n)/\s=⟨[(0,Qj l),(5,Qj l),(6,.int (l.n:Int)),(7,.int (q:Int))],[],0,33⟩) (l.n-0) ⟨0,rfl,Nat.zero_le _,κ⟩ ?_)
 rintro _ _ ⟨q,rfl,hF,rfl⟩ hJ1
 refine Ab 6 (Hn 8 ((q:Int)<(l.n:Int)) (λhx1 hx1d=>?_) (λhx1 hx1d=>?_))
 refine Ab 7 (gs (Gu q l.n ·) (Ab 8 (gs (Ao (Gq (l.f q)) ·) (Ab 3 (Ew 13 ?_ ?_)))))
 exact Ab 12 (Bb)
 exact Ab 5 (gs (Cv ((q:Int)+1) ((q+1:Nat):Int) ·) (Ab 2 (Fy [0,5,6,7] [] 0 [] trivial (hJ1 _ _ (by omega:l.n-(q+1)<l.n-q) ⟨q+1,rfl,ω,rfl⟩))))
 refine Ab 12 (Hn 18 ((l.n:Int)<=25) (λhx2 hx2d=>?_) (λhx2 hx2d=>?_))
 refine Ab 4 (Hn 22 ((l.n:Int)=0) (λhx3 hx3d=>?_) (λhx3 hx3d=>?_))
 exact Ab 14 (Bb)
 exact Ab 3 (gs (Cv ((l.n:Int)-1) ((l.n-1:Nat):Int) ·) (gs (Gu (l.n-1) l.n ·) (Ab 1 (Dy (Io (l.f (l.n-1))) λv4 hv4=>(gs (Ao hv4 ·) (Ab 7 (Bb)))))))
 exact Ab 18 (Bb)
noncomputable def AkN (l:Ws):Value:=Kp 174 [.one .b] [Qj l]
theorem AbZ (l:Ws) (h0:l.n<=1000000):AF Tryz.prog 174 [Qj l] (.lit (Hp [.one .b] (AkN l))):=Bi (AdH l h0)
theorem Ahi (l:Ws) (g:Bool) (h0:l.n<=1000000):∃r,Gc [.agg [.b,.s,.b,.s]] r/\AF Tryz.prog 184 [.slc 1 1 λ_=>Qj l,.bool g] r:=by
 refine Au func184 rfl ?_
 refine Ab 19 (gs (Sv 1 ·) (Ab 14 (gs (Gu 0 1 ·) (Ab 13 (Vl [1,4,5,6,7,14,15,16,21,22,23] (λm s=>∃(j:Nat) (b:Rr),m=l.n-j/\(j<=l.n)/\s=⟨[(1,.bool g),(4,.ptr 0 0),(5,.ptr 1 0),(6,.int 0),(7,Qj l),(14,.slc 1 1 (λi0=>Qj l)),(15,.int 1),(16,.int 0),(21,Qj l),(22,.int (l.n:Int)),(23,.int (j:Int))],[(0,.box 221 [.bool false,.lit (.string ⟨#[]⟩),.bool false,.lit (.string ⟨#[]⟩)]),(1,.box 221 [.bool b.num.neg,.lit (.string b.num.mag),.bool b.den.neg,.lit (.string b.den.mag)])],2,63⟩) (l.n-0) ⟨0,⟨⟨false,⟨#[]⟩⟩,⟨false,⟨#[]⟩⟩⟩,rfl,Nat.zero_le _,κ⟩ ?_)))))
 rintro _ _ ⟨j,b,rfl,hF,rfl⟩ hJ1
 refine Ab 6 (Hn 24 ((j:Int)<(l.n:Int)) (λhx1 hx1d=>?_) (λhx1 hx1d=>?_))
 refine Ab 8 (gs (Gu j l.n ·) (Ab 7 (Dy (Aax ((l.n-1:Nat):Int) j ω) λv2 hv2=>(Dy (Mh (gI v2)) λv3 hv3=>(Dy (Zm (l.f j) (⟨(gB (gT v3 0)),(gS (gT v3 1))⟩)) λv4 hv4=>(gs (Cp [(3,.int ((l.n-1:Nat):Int),.none),(5,_,.none),(6,_,.none),(7,_,.none)] [1,4,5,6,7,8,10,14,15,16,21,22,23] ⟨En (.int .i64 (IntKind.wrap .i64 ((l.n:Int)-1))) η,Be hv2,Be hv3,Be hv4,trivial⟩ ·) (Ab 5 (Dy (Ajy (⟨⟨(gB (gT (gT v4 0) 0)),(gS (gT (gT v4 0) 1))⟩,⟨(gB (gT (gT v4 0) 2)),(gS (gT (gT v4 0) 3))⟩⟩) b) λv5 hv5=>(gs (Ao hv5 ·) (Ab 11 (gs (Cv ((0:Int)+(j:Int)) ((0+j:Nat):Int) ·) (Ab 2 (Hn 49 (((0+j:Nat):Int)=0) (λhx6 hx6d=>?_) (λhx6 hx6d=>?_))))))))))))))
 exact Ab 19 (gs (Cv ((j:Int)+1) ((j+1:Nat):Int) ·) (Ab 2 (Fy [1,4,5,6,7,14,15,16,21,22,23] [(0,0),(1,1)] 2 [] trivial (hJ1 _ _ (by omega:l.n-(j+1)<l.n-j) ⟨j+1,⟨⟨(gB (gT (gT v4 0) 0)),(gS (gT (gT v4 0) 1))⟩,⟨(gB (gT (gT v4 0) 2)),(gS (gT (gT v4 0) 3))⟩⟩,rfl,ω,rfl⟩))))
 refine Ab 3 (gs (Cz (.bool (!decide (decide ((gI (gT v5 0))<0)=g))) (.bool (!decide (decide ((gI (gT v5 0))<0)=g))) ·) (Ab 1 (Ew 54 ?_ ?_)))
 refine Ab 6 (Ew 58 ?_ ?_)
 exact Ab 8 (gs (Cv ((j:Int)+1) ((j+1:Nat):Int) ·) (Ab 2 (Fy [1,4,5,6,7,14,15,16,21,22,23] [(0,0),(1,1)] 2 [] trivial (hJ1 _ _ (by omega:l.n-(j+1)<l.n-j) ⟨j+1,⟨⟨(gB (gT (gT v4 0) 0)),(gS (gT (gT v4 0) 1))⟩,⟨(gB (gT (gT v4 0) 2)),(gS (gT (gT v4 0) 3))⟩⟩,rfl,ω,rfl⟩))))
 exact Ab 5 (gs (Cv ((j:Int)+1) ((j+1:Nat):Int) ·) (Ab 2 (Fy [1,4,5,6,7,14,15,16,21,22,23] [(0,0),(1,1)] 2 [] trivial (hJ1 _ _ (by omega:l.n-(j+1)<l.n-j) ⟨j+1,b,rfl,ω,rfl⟩))))
 exact Ab 11 (gs (Cv ((j:Int)+1) ((j+1:Nat):Int) ·) (Ab 2 (Fy [1,4,5,6,7,14,15,16,21,22,23] [(0,0),(1,1)] 2 [] trivial (hJ1 _ _ (by omega:l.n-(j+1)<l.n-j) ⟨j+1,b,rfl,ω,rfl⟩))))
 exact Ab 31 (Bb)
noncomputable def AmX (l:Ws) (g:Bool):Value:=Kp 184 [.agg [.b,.s,.b,.s]] [.slc 1 1 λ_=>Qj l,.bool g]
theorem qN (l:Ws) (g:Bool) (h0:l.n<=1000000):AF Tryz.prog 184 [.slc 1 1 λ_=>Qj l,.bool g] (.lit (Hp [.agg [.b,.s,.b,.s]] (AmX l g))):=Bi (Ahi l g h0)
theorem Acr (l:Ws) (h0:l.n<=1000000):∃r,Gc [.agg [.b,.s,.b,.s],.agg [.b,.s,.b,.s],.one .i] r/\AF Tryz.prog 132 [Qj l] r:=by
 refine Au func132 rfl ?_
 refine Ab 18 (Dy (AbJ l ω) λv1 hv1=>(gs (Ao hv1 ·) (Ab 4 (Ew 7 ?_ ?_))))
 exact Ab 2 (gs (Cp [] [2,3,4] trivial ·) (Ab 4 (Bb)))
 refine Ab 4 (Dy (qL l ω) λv2 hv2=>(gs (Ao hv2 ·) (Ab 5 (Ew 13 ?_ ?_))))
 exact Ab 2 (gs (Cp [] [2,3,4] trivial ·) (Ab 4 (Bb)))
 exact Ab 7 (gs (Kb 2 275 1 1 (λ_=>Qj l) ·) (Dy (qN l false ω) λv3 hv3=>(gs (Cu (.lit (.agg #[.bool (gB (gT v3 0)),.string (gS (gT v3 1)),.bool (gB (gT v3 2)),.string (gS (gT v3 3))])) (.drop 2) (Gr 184 #[.tmp 21,(.const (.bool false))] #[278,4] κ (λ_ _=>by kernel_rfl) 2 (.vec 275 1 1 (λ_=>Qj l)) κ (λ_ _ _ _ h=>by cases h;exact(Ce λ_ _=>rfl)) [.osl 2 1 1,.bool false] κ [.slc 1 1 (λ_=>Qj l),.bool false] κ (.lit (.agg #[.bool (gB (gT v3 0)),.string (gS (gT v3 1)),.bool (gB (gT v3 2)),.string (gS (gT v3 3))])) hv3) ·) (Ab 1 (gs (Kb 3 275 1 1 (λ_=>Qj l) ·) (Dy (qN l true ω) λv4 hv4=>(gs (Cu (.lit (.agg #[.bool (gB (gT v4 0)),.string (gS (gT v4 1)),.bool (gB (gT v4 2)),.string (gS (gT v4 3))])) (.drop 3) (Gr 184 #[.tmp 24,(.const (.bool true))] #[278,4] κ (λ_ _=>by kernel_rfl) 3 (.vec 275 1 1 (λ_=>Qj l)) κ (λ_ _ _ _ h=>by cases h;exact(Ce λ_ _=>rfl)) [.osl 3 1 1,.bool true] κ [.slc 1 1 (λ_=>Qj l),.bool true] κ (.lit (.agg #[.bool (gB (gT v4 0)),.string (gS (gT v4 1)),.bool (gB (gT v4 2)),.string (gS (gT v4 3))])) hv4) ·) (Ab 6 (Bb)))))))))
noncomputable def AjK (l:Ws):Value:=Kp 132 [.agg [.b,.s,.b,.s],.agg [.b,.s,.b,.s],.one .i] [Qj l]
theorem AbH (l:Ws) (h0:l.n<=1000000):AF Tryz.prog 132 [Qj l] (.lit (Hp [.agg [.b,.s,.b,.s],.agg [.b,.s,.b,.s],.one .i] (AjK l))):=Bi (Acr l h0)
theorem AgJ (p:Ws) (d:Nat) (hp:p.n<=25) (hd:d<=1000):∃r,(∃w:Ws×Int,w.1.n<=25/\(r= .tup [Qj w.1,.int w.2]\/r= .lit (.tuple #[.slice none 0 0,.int .i64 w.2])))/\AF Tryz.prog 131 [Qj p,.int (d:Int)] r:=by
 refine Au func131 rfl ?_
 refine Ab 11 (Dy (AbZ p ω) λv1 hv1=>(gs (Ao hv1 ·) (Ab 2 (Ew 10 ?_ ?_))))
 exact Ab 20 (Nz ⟨(⟨0,λ_=>⟨false,⟨#[]⟩⟩⟩,2),(by decide:(0:Nat)<=25),.inr rfl⟩)
 refine Ab 4 (iA 14 (decide ((d:Int)<0)) false (decide_eq_false ω) (Ab 6 (Hn 6 ((24:Int)<(d:Int)) (λhx3 hx3d=>?_) (λhx3 hx3d=>?_))))
 exact Ab 10 (Nz ⟨(⟨0,λ_=>⟨false,⟨#[]⟩⟩⟩,2),(by decide:(0:Nat)<=25),.inr rfl⟩)
 refine Ab 6 (gs (λh9=>Cz (.int .i64 (IntKind.wrap .i64 ((p.n:Int)-1))) (.int .i64 ((p.n:Int)-1)) h9 (congrArg (Value.int .i64) (IntWalk.i64_in _ ω))) (Ab 4 (Hn 18 ((d:Int)<(p.n:Int)-1) (λhx4 hx4d=>?_) (λhx4 hx4d=>?_))))
 exact Ab 10 (Nz ⟨(⟨0,λ_=>⟨false,⟨#[]⟩⟩⟩,3),(by decide:(0:Nat)<=25),.inr rfl⟩)
 refine Ab 4 (Dy (qL p ω) λv5 hv5=>(gs (Ao hv5 ·) (Ab 5 (Hn 24 ((65536:Int)<Ai ((gI v5)+30)) (λhx6 hx6d=>?_) (λhx6 hx6d=>?_)))))
 exact Ab 10 (Nz ⟨(⟨0,λ_=>⟨false,⟨#[]⟩⟩⟩,7),(by decide:(0:Nat)<=25),.inr rfl⟩)
 refine Ab 8 (Exists.elim (AoC p d ω ω) λv7 hv7=>?_)
 have hv7n:=hv7.1
 exact gs (Ao hv7.2 ·) (Ab 5 (Nz ⟨(v7,0),by show v7.n<=25;omega,.inl rfl⟩))
theorem Akk (p:Ws) (d:Nat) (h:p.n<=25/\d<=1000):∃w:Ws×Int,w.1.n<=25/\AF Tryz.prog 131 [Qj p,.int (d:Int)] (.tup [Qj w.1,.int w.2]):=by
 obtain⟨r,⟨w,h1,h3⟩,h2⟩:=AgJ p d h.1 h.2
 rcases h3 with rfl|rfl
 exact⟨w,h1,h2⟩
 refine⟨(⟨0,λ_=>⟨false,⟨#[]⟩⟩⟩,w.2),Nat.zero_le _,wQ h2 rfl (λ_ _ _ _ h=>h) λE v h=>?_⟩
 have:=h.lit_inv
 subst this
 exact Apf (.sl0 _ _ _ _ _) (.lit _ _)
def Kj (n:Nat):Nat->Int
 |0=>1
 |i+1=>(Kj n i*((n:Int)-i)).tdiv (i+1)
theorem dP:∀n,n<25->∀i,i<26->0<=Kj n i/\Kj n i<=3000000:=by decide+kernel
theorem AiC {n i:Nat} {w:Int} (hn:n<=24) (hi:i<n) (hw:w=Kj n i):Ai (Int.tdiv (Ai (w*((n-i:Nat):Int))) ((i+1:Nat):Int))=Kj n (i+1):=by
 subst hw
 have h1:=dP n ω i ω
 have h2:=dP n ω (i+1) ω
 have e1:((n-i:Nat):Int)=(n:Int)-i:=by omega
 have e2:((i+1:Nat):Int)=(i:Int)+1:=by omega
 have h3:0<=Kj n i*((n:Int)-i):=Int.mul_nonneg h1.1 ω
 have h4:Kj n i*((n:Int)-i)<=3000000*24:=Int.mul_le_mul h1.2 ω ω δ
 have h5:Kj n (i+1)=(Kj n i*((n:Int)-i)).tdiv (i+1):=rfl
 rw[e1,e2,show Ai (Kj n i*((n:Int)-i))=_ from IntWalk.i64_in _ ω,<-h5]
 exact IntWalk.i64_in _ ω
theorem AnQ (n k:Nat) (hn:n<=24) (hk:k<=n):∃r,r=AV.int (Kj n k)/\AF Tryz.prog 220 [.int (n:Int),.int (k:Int)] r:=by
 refine Au func220 rfl ?_
 refine Ab 18 (Vl [0,5,7,8] (λm s=>∃(i:Nat) (w:Int),m=k-i/\(w=Kj n i/\i<=k)/\s=⟨[(0,.int (n:Int)),(5,.int w),(7,.int (k:Int)),(8,.int (i:Int))],[],0,21⟩) (k-0) ⟨0,1,rfl,⟨rfl,Nat.zero_le _⟩,κ⟩ ?_)
 rintro _ _ ⟨i,w,rfl,hF,rfl⟩ hJ1
 refine Ab 6 (Hn 9 ((i:Int)<(k:Int)) (λhx1 hx1d=>?_) (λhx1 hx1d=>?_))
 exact Ab 15 (gs (Cv ((n:Int)-(i:Int)) ((n-i:Nat):Int) ·) (Ab 2 (gs (Cv ((i:Int)+1) ((i+1:Nat):Int) ·) (gs (Apg (Ai (w*((n-i:Nat):Int))) ((i+1:Nat):Int) ω ·) (Ab 5 (gs (Cv ((i:Int)+1) ((i+1:Nat):Int) ·) (Ab 2 (mH [0,5,7,8] (hJ1 _ _ (by omega:k-(i+1)<k-i) ⟨i+1,(Ai (Int.tdiv (Ai (w*((n-i:Nat):Int))) ((i+1:Nat):Int))),rfl,⟨AiC hn ω hF.1,ω⟩,rfl⟩)))))))))
 exact Ab 13 (Nz (r:=AV.int w) (by rw[hF.1,show i=k by omega]))
theorem Afn (s w k:Int) (hs:Bn s) (hw:Bn w) (hk:Cj k) (h1:Bn (w*k)) (h2:Bn (s+w*k)):AF Tryz.prog 219 [WA s,WA w,.int k] (WA (s+w*k)):=by
 refine As func219 rfl λB D0 hA0=>?_
 exact Ae 8 (Cp [(2,_,.none),(3,_,.none)] [3,4,6] ⟨Be (Er k hk.1 hk.2),Be (cV w k hw (Eg hk.1 hk.2) h1),trivial⟩ (Ae 5 (Ao (mY s (w*k) hs h1 h2) (Ae 13 (Ck)))))
theorem qW (n k:Nat) (hn:n<=24) (hk:k<=n):AF Tryz.prog 220 [.int (n:Int),.int (k:Int)] (.int (Kj n k)):=by
 obtain⟨r,rfl,h⟩:=AnQ n k hn hk
 exact h
theorem Xd {n k:Nat} (hn:n<=24) (hk:k<=n):Cj (Kj n k):=by
 have:=dP n ω k ω
 exact⟨ω,ω⟩
theorem Ab7 {n k:Nat} (hn:n<=24) (hk:k<=n):0<Kj n k:=by
 have:∀n,n<25->∀k,k<n+1->0<Kj n k:=by decide+kernel
 exact this n ω k ω
def ofS (p:Nat->Int) (d j:Nat):Nat->Int
 |0=>0
 |i+1=>ofS p d j i+p i*Kj (d-i) (j-i)
def ofC (p:Nat->Int) (m d j:Nat):Int:=ofS p d j (min (j+1) m)
theorem oV {p:Nat->Int} {d j:Nat} (hp:∀i,Bd 1000 (p i)) (hd:d<=24) (hj:j<=d):∀i,i<=j+1->Bd (1063+i) (ofS p d j i)
 |0,_=>Bd.zero _
 |i+1,h=>by
  have w:=Xd (n:=d-i) (k:=j-i) ω ω
  exact(oV hp hd hj i ω).add (((hp i).mul (Bd.int w.1 w.2)).mono ω)
def So (g:Nat->Int) (j:Nat) (z:Int):Nat->Int:=λk=>if k=j then z else g k
theorem Al1 (g:Nat->Int) (j:Nat) (y z:Int) (k:Nat):(if k=j then WA z else WA (So g j y k))=WA (So g j z k):=by unfold So;by_cases h:k=j<;>simp[h]
theorem Al2 (g:Nat->Int) (j:Nat) (k:Nat) (h:g j=0):WA (g k)=WA (So g j 0 k):=by unfold So;by_cases e:k=j<;>simp[e,h]
def OfJ (p:Nat->Int) (m d j:Nat) (g:Nat->Int):Prop:=∀q,g q=if q<j then ofC p m d q else 0
theorem OfJ.step {p:Nat->Int} {m d j:Nat} {g:Nat->Int} {z:Int} (h:OfJ p m d j g) (hz:z=ofC p m d j):OfJ p m d (j+1) (So g j z):=λq=>by
 unfold So
 by_cases e:q=j
 subst e;rw[if_pos rfl,if_pos (Nat.lt_succ_self _)];exact hz
 rw[if_neg e,h q]
 by_cases h2:q<j
 rw[if_pos h2,if_pos ω]
 rw[if_neg h2,if_neg ω]
theorem OfJ.zero {p:Nat->Int} {m d j:Nat} {g:Nat->Int} (h:OfJ p m d j g):g j=0:=by rw[h j,if_neg ω]
theorem AoB (p:Nat->Int) (m d:Nat):OfJ p m d 0 (λ_=>0):=λq=>(if_neg (Nat.not_lt_zero q)).symm
theorem AnI (g:Nat->Int) (j:Nat) (z:Int):So g j z j=z:=if_pos rfl
theorem Afo (g:Nat->Int) (p:Nat->Int) {d j i:Nat} {z:Int} (hp:∀i,Bd 1000 (p i)) (hd:d<=24) (hj:j<=d) (hi:i<=j) (hz:z=ofS p d j i):AF Tryz.prog 219 [WA (So g j z j),WA (p i),.int (Kj (d-i) (j-i))] (WA (z+p i*Kj (d-i) (j-i))):=by
 rw[AnI]
 have w:=Xd (n:=d-i) (k:=j-i) ω ω
 have b1:=oV hp hd hj i ω
 have b2:=oV hp hd hj (i+1) ω
 have e:ofS p d j (i+1)=ofS p d j i+p i*Kj (d-i) (j-i):=rfl
 rw[e] at b2
 subst hz
 exact Afn _ _ _ (b1.fit ω) ((hp i).fit ω) w (((hp i).mul (Bd.int w.1 w.2)).fit ω) (b2.fit ω)
theorem ApQ (L:Nat) (p:Nat->Int) (d:Nat) (hm:L<=25) (hp:∀i,Bd 1000 (p i)) (hd:d<=24):∃r,(∃g,OfJ p L d (d+1) g/\r= .sl 2 (d+1) λi=>WA (g i))/\AF Tryz.prog 182 [Dk L p,.int (d:Int)] r:=by
 refine Au func182 rfl ?_
 refine Ab 8 (gs (Cv ((d:Int)+1) ((d+1:Nat):Int) ·) (gs (Cu (.osl 0 2 (d+1)) (.new 0 (.vec 169 2 (d+1) (λ_=> .lit (Ak 0)))) (Qc 275 (.tmp 9) (.tmp 9) κ underlying275 2 24 (.agg #[.bool false,.string ⟨#[]⟩]) κ κ δ ((d+1:Nat):Int) (d+1) ω κ κ ω ω ω 0 (.lit (Ak 0)) κ) ·) (Ab 12 (gs (Xc 0 169 2 (d+1) (λ_=> .lit (Ak 0)) (λxi=>WA ((λ_=>0) xi)) (λx9 hx9=>rfl) ·) (Vl [0,1,5,12,13] (λm s=>∃(j:Nat) (g:Nat->Int),m=d+1-j/\(OfJ p L d j g/\j<=d+1)/\s=⟨[(0,Dk L p),(1,.int (d:Int)),(5,.osl 0 2 (d+1)),(12,.int ((d+1:Nat):Int)),(13,.int (j:Int))],[(0,.vec 169 2 (d+1) (λxi=>WA (g xi)))],1,48⟩) (d+1-0) ⟨0,(λ_=>0),rfl,⟨AoB p L d,Nat.zero_le _⟩,κ⟩ ?_)))))
 rintro _ _ ⟨j,g,rfl,hF,rfl⟩ hJ1
 have hO:=hF
 refine Ab 6 (Hn 14 ((j:Int)<((d+1:Nat):Int)) (λhx1 hx1d=>?_) (λhx1 hx1d=>?_))
 refine Ab 17 (gs (Xc 0 169 2 (d+1) (λxi=>WA (g xi)) (λxi=>WA (So g j 0 xi)) (λx9 hx9=>Al2 g j x9 hF.1.zero) ·) (Vl [0,1,5,6,7,12,13] (λm s=>∃(i:Nat) (z:Int),m=j+1-i/\(z=ofS p d j i/\i<=j+1/\i<=L)/\s=⟨[(0,Dk L p),(1,.int (d:Int)),(5,.osl 0 2 (d+1)),(6,.int (j:Int)),(7,.int (i:Int)),(12,.int ((d+1:Nat):Int)),(13,.int (j:Int))],[(0,.vec 169 2 (d+1) (λxi=>WA (So g j z xi)))],1,48⟩) (j+1-0) ⟨0,0,rfl,⟨rfl,Nat.zero_le _,Nat.zero_le _⟩,κ⟩ ?_))
 rintro _ _ ⟨i,z,rfl,hF,rfl⟩ hJ2
 refine Ab 7 (Hn 19 ((i:Int)<=(j:Int)) (λhx2 hx2d=>?_) (λhx2 hx2d=>?_))
 refine Ab 7 (Hn 24 ((i:Int)<(L:Int)) (λhx3 hx3d=>?_) (λhx3 hx3d=>?_))
 exact Ab 5 (gs (Cp [(4,Cw (.osl 0 2 (d+1)) j,.none),(5,.lit (Ak (So g j z j)),(.read 0)),(8,Cw (Dk L p) i,.none),(12,.int ((d-i:Nat):Int),.none),(15,.int ((j-i:Nat):Int),.none),(16,_,.none),(17,_,.none),(18,Cw (.osl 0 2 (d+1)) j,.none),(19,.lit Go.undef,(.set 0 (.vec 169 2 (d+1) (λxi=>if xi=j then .lit (Ak (z+p i*Kj (d-i) (j-i))) else (λxi=>WA (So g j z xi)) xi))))] [0,1,5,6,7,12,13] ⟨Jn j (d+1),Eb (Bg 169 (.tmp 31) κ isAgg169 2 sizeOf169 0 j κ 169 (d+1) (λxi=>WA (So g j z xi)) κ ω),Jn i L,En (.int .i64 (IntKind.wrap .i64 ((d:Int)-(i:Int)))) η,En (.int .i64 (IntKind.wrap .i64 ((j:Int)-(i:Int)))) η,Be (qW (d-i) (j-i) ω ω),Be (Afo g p (d:=d) (j:=j) (i:=i) (z:=z) hp hd ω ω hF.1),Jn j (d+1),Eb (Gs 169 (.tmp 45) (.tmp 44) κ 2 sizeOf169 0 j κ 169 (d+1) (λxi=>WA (So g j z xi)) κ ω κ κ κ (.lit (Ak (z+p i*Kj (d-i) (j-i)))) κ),trivial⟩ ·) (Ab 4 (gs (Cv ((i:Int)+1) ((i+1:Nat):Int) ·) (Ab 2 (gs (Xc 0 169 2 (d+1) (λxi=>if xi=j then .lit (Ak (z+p i*Kj (d-i) (j-i))) else (λxi=>WA (So g j z xi)) xi) (λxi=>WA (So g j (z+p i*Kj (d-i) (j-i)) xi)) (λx9 hx9=>Al1 g j z (z+p i*Kj (d-i) (j-i)) x9) ·) (mH [0,1,5,6,7,12,13] (hJ2 _ _ (by omega:j+1-(i+1)<j+1-i) ⟨i+1,z+p i*Kj (d-i) (j-i),rfl,⟨by rw[hF.1];rfl,ω,ω⟩,rfl⟩)))))))
 exact Ab 8 (gs (Cv ((j:Int)+1) ((j+1:Nat):Int) ·) (Ab 2 (mH [0,1,5,12,13] (hJ1 _ _ (by omega:d+1-(j+1)<d+1-j) ⟨j+1,So g j z,rfl,⟨hO.1.step (z:=z) (by rw[hF.1];unfold ofC;congr 1;omega),ω⟩,rfl⟩))))
 exact Ab 15 (gs (Cv ((j:Int)+1) ((j+1:Nat):Int) ·) (Ab 2 (mH [0,1,5,12,13] (hJ1 _ _ (by omega:d+1-(j+1)<d+1-j) ⟨j+1,So g j z,rfl,⟨hO.1.step (z:=z) (by rw[hF.1];unfold ofC;congr 1;omega),ω⟩,rfl⟩))))
 exact Ab 12 (gs (iM 0 [4] 169 2 (d+1) (λxi=>WA (g xi)) (Ce λ_ _=>rfl) ·) (Ab 1 (Nz (r:= .sl 2 (d+1) λi=>WA (g i)) ⟨g,by rw[show d+1=j by omega];exact hF.1,rfl⟩)))
def Aku (x y:Int):Int×Int:=(x/Tz x y,y/Tz x y)
def Ant (b r:Int×Int):Int:=(r.1*b.2-b.1*r.2).sign
def Gn (c:Nat->Int) (n j:Nat):Int×Int:=Aku (c j) (Kj (n-1) j)
def Qi (g:Bool) (c:Nat->Int) (n:Nat):Nat->Int×Int
 |0=>(0,0)
 |j+1=>if j=0 then Gn c n j else if decide (Ant (Qi g c n j) (Gn c n j)<0)=g then Qi g c n j else if Ant (Qi g c n j) (Gn c n j)=0 then Qi g c n j else Gn c n j
def Yr (g:Bool) (c:Nat->Int) (n j:Nat):Int:=if j=0 then 0 else Ant (Qi g c n j) (Gn c n j)
def Ab8:Rr:=⟨⟨false,⟨#[]⟩⟩,⟨false,⟨#[]⟩⟩⟩
def kI (g:Bool) (c:Nat->Int) (n j:Nat) (b:Rr):Prop:=(j=0/\b=Ab8)\/(0<j/\Cq b=Iu (Qi g c n j).1 (Qi g c n j).2)
theorem rL {g:Bool} {c:Nat->Int} {n j:Nat} (h:Qi g c n (j+1)=Gn c n j):kI g c n (j+1) ⟨⟨decide ((Gn c n j).1<0),Ci (Gn c n j).1.natAbs⟩,⟨decide ((Gn c n j).2<0),Ci (Gn c n j).2.natAbs⟩⟩:= .inr ⟨Nat.succ_pos _,by rw[h]⟩
theorem rM {g:Bool} {c:Nat->Int} {n j:Nat} {b:Rr} (hb:kI g c n j b) (hj:¬j=0) (h:Qi g c n (j+1)=Qi g c n j):kI g c n (j+1) b:=by
 rcases hb with⟨h0,_⟩|⟨_,h2⟩
 exact absurd h0 hj
 exact .inr ⟨Nat.succ_pos _,by rw[h];exact h2⟩
theorem Anb {g:Bool} {c:Nat->Int} {n j:Nat} (h:j=0):Qi g c n (j+1)=Gn c n j:=by unfold Qi;rw[if_pos h]
theorem ApI {g:Bool} {c:Nat->Int} {n j:Nat} (h:¬j=0) (ha:decide (Yr g c n j<0)=g):Qi g c n (j+1)=Qi g c n j:=by
 unfold Yr at ha;rw[if_neg h] at ha
 rw[Qi,if_neg h,if_pos ha]
theorem ApJ {g:Bool} {c:Nat->Int} {n j:Nat} (h:¬j=0) (ha:Yr g c n j=0):Qi g c n (j+1)=Qi g c n j:=by
 unfold Yr at ha;rw[if_neg h] at ha
 rw[Qi,if_neg h,if_pos ha,ite_self]
theorem ApK {g:Bool} {c:Nat->Int} {n j:Nat} (h:¬j=0) (ha:¬decide (Yr g c n j<0)=g) (hb:¬Yr g c n j=0):Qi g c n (j+1)=Gn c n j:=by
 unfold Yr at ha hb;rw[if_neg h] at ha hb
 rw[Qi,if_neg h,if_neg ha,if_neg hb]
theorem Wr {x y:Int} (hx:Bn x) (hy:Bn y) (hp:0<y):Bn (Aku x y).1/\Bn (Aku x y).2/\0<(Aku x y).2:=by
 have hd:Tz x y∣y:=by
  have h1:(Nat.gcd x.natAbs y.natAbs)∣y.natAbs:=Nat.gcd_dvd_right _ _
  exact Int.ofNat_dvd_left.2 h1
 exact⟨Rv hx,Rv hy,Int.ediv_pos_of_pos_of_dvd hp (Int.natCast_nonneg _) hd⟩
theorem Ab1 {c:Nat->Int} {n j:Nat} (hc:∀q,Bn (c q)) (hn:n<=25) (hj:j<n):Bn (Gn c n j).1/\Bn (Gn c n j).2/\0<(Gn c n j).2:=by
 have w:=Xd (n:=n-1) (k:=j) ω ω
 exact Wr (hc j) (Eg w.1 w.2) (Ab7 ω ω)
theorem Aba {g:Bool} {c:Nat->Int} {n:Nat} (hc:∀q,Bn (c q)) (hn:n<=25):∀j,0<j->j<=n->Bn (Qi g c n j).1/\Bn (Qi g c n j).2/\0<(Qi g c n j).2
 |0,h,_=>absurd h (Nat.lt_irrefl 0)
 |j+1,_,h=>by
  have ht:=Ab1 hc hn (j:=j) ω
  by_cases h0:j=0
  rw[Anb h0];exact ht
  have ih:=Aba (g:=g) hc hn j ω ω
  rw[Qi,if_neg h0]
  split
  exact ih
  split
  exact ih
  exact ht
theorem AdK (x y:Int) (b:Rr) (hb:Uj b=false):∃r,r=AV.lit (.tuple #[.int .i64 0,.int .i64 2])/\AF Tryz.prog 142 [Iu x y,Cq b] r:=by
 have hq:(Uj ⟨⟨decide (x<0),Ci x.natAbs⟩,⟨decide (y<0),Ci y.natAbs⟩⟩&&Uj b)=false:=by rw[hb,Bool.and_false]
 refine Au func142 rfl ?_
 exact Ab 13 (gs (Ao (Xh ⟨⟨decide (x<0),Ci x.natAbs⟩,⟨decide (y<0),Ci y.natAbs⟩⟩ b) ·) (Ab 3 (iA 12 (!(Uj ⟨⟨decide (x<0),Ci x.natAbs⟩,⟨decide (y<0),Ci y.natAbs⟩⟩&&Uj b)) true (by rw[hq];rfl) (Ab 9 (Nz (r:= .lit (.tuple #[.int .i64 0,.int .i64 2])) rfl)))))
theorem AhB:Uj Ab8=false:=Gh λ⟨x,y,_,_,hp,e⟩=>by
 have h:=AV.lit.inj e
 unfold Ab8 at h
 simp only[Value.agg.injEq,Array.mk.injEq,List.cons.injEq,Value.bool.injEq,Value.string.injEq,and_true] at h
 have h3:=xF (n:=y.natAbs) ω
 rw[<-h.2.2.2] at h3
 exact absurd h3 (by simp)
theorem Ajj (g:Bool) (c:Nat->Int) (n j:Nat) (b:Rr) (hc:∀q,Bn (c q)) (hn:n<=25) (hj:j<n) (hb:kI g c n j b):AF Tryz.prog 142 [Iu (Gn c n j).1 (Gn c n j).2,Cq b] (.lit (.tuple #[.int .i64 (Yr g c n j),.int .i64 (if j=0 then 2 else 0)])):=by
 have ht:=Ab1 hc hn hj
 rcases hb with⟨h0,rfl⟩|⟨h0,h1⟩
 obtain⟨r,rfl,h⟩:=AdK (Gn c n j).1 (Gn c n j).2 Ab8 AhB
 unfold Yr
 rw[if_pos h0,if_pos h0]
 exact h
 have hl:=Aba (g:=g) hc hn j h0 ω
 unfold Yr
 rw[h1,if_neg ω,if_neg ω]
 exact Afq _ _ _ _ ht.1 ht.2.1 hl.1 hl.2.1 ht.2.2 hl.2.2
theorem Akp (n:Nat) (c:Nat->Int) (g:Bool) (hn:n<=25) (hc:∀q,Bn (c q)):∃r,(∃b,kI g c n n b/\r=Cq b)/\AF Tryz.prog 184 [.slc 1 1 λ_=>Dk n c,.bool g] r:=by
 refine Au func184 rfl ?_
 refine Ab 19 (gs (Sv 1 ·) (Ab 14 (gs (Gu 0 1 ·) (Ab 13 (Vl [1,4,5,6,7,14,15,16,21,22,23] (λm s=>∃(j:Nat) (b:Rr),m=n-j/\(kI g c n j b/\j<=n)/\s=⟨[(1,.bool g),(4,.ptr 0 0),(5,.ptr 1 0),(6,.int 0),(7,Dk n c),(14,.slc 1 1 (λi0=>Dk n c)),(15,.int 1),(16,.int 0),(21,Dk n c),(22,.int (n:Int)),(23,.int (j:Int))],[(0,.box 221 [.bool false,.lit (.string ⟨#[]⟩),.bool false,.lit (.string ⟨#[]⟩)]),(1,.box 221 [.bool b.num.neg,.lit (.string b.num.mag),.bool b.den.neg,.lit (.string b.den.mag)])],2,63⟩) (n-0) ⟨0,⟨⟨false,⟨#[]⟩⟩,⟨false,⟨#[]⟩⟩⟩,rfl,⟨.inl ⟨rfl,rfl⟩,Nat.zero_le _⟩,κ⟩ ?_)))))
 rintro _ _ ⟨j,b,rfl,hF,rfl⟩ hJ1
 refine Ab 6 (Hn 24 ((j:Int)<(n:Int)) (λhx1 hx1d=>?_) (λhx1 hx1d=>?_))
 refine Ab 8 (gs (Gu j n ·) (Ab 7 (gs (Cp [(3,.int ((n-1:Nat):Int),.none),(5,_,.none),(6,_,.none),(7,_,.none)] [1,4,5,6,7,8,10,14,15,16,21,22,23] ⟨En (.int .i64 (IntKind.wrap .i64 ((n:Int)-1))) η,Be (qW (n-1) j ω ω),Be (Er (Kj (n-1) j) (Xd ω ω).1 (Xd ω ω).2),Be (Wf (c j) (Kj (n-1) j) (hc j) (Eg (Xd ω ω).1 (Xd ω ω).2) (Ab7 ω ω)),trivial⟩ ·) (Ab 5 (gs (Ao (Ajj g c n j b hc hn ω hF.1) ·) (Ab 11 (gs (Cv ((0:Int)+(j:Int)) ((0+j:Nat):Int) ·) (Ab 2 (Hn 49 (((0+j:Nat):Int)=0) (λhx2 hx2d=>?_) (λhx2 hx2d=>?_))))))))))
 exact Ab 19 (gs (Cv ((j:Int)+1) ((j+1:Nat):Int) ·) (Ab 2 (Fy [1,4,5,6,7,14,15,16,21,22,23] [(0,0),(1,1)] 2 [] trivial (hJ1 _ _ (by omega:n-(j+1)<n-j) ⟨j+1,⟨⟨decide ((Gn c n j).1<0),Ci ((Gn c n j).1).natAbs⟩,⟨decide ((Gn c n j).2<0),Ci ((Gn c n j).2).natAbs⟩⟩,rfl,⟨rL (Anb ω),ω⟩,rfl⟩))))
 refine Ab 3 (gs (Cz (.bool (!decide (decide ((Yr g c n j)<0)=g))) (.bool (!decide (decide ((Yr g c n j)<0)=g))) ·) (Ab 1 (Ait 54 (decide ((Yr g c n j)<0)=g) (λhx3 hx3d=>?_) (λhx3 hx3d=>?_))))
 exact Ab 11 (gs (Cv ((j:Int)+1) ((j+1:Nat):Int) ·) (Ab 2 (Fy [1,4,5,6,7,14,15,16,21,22,23] [(0,0),(1,1)] 2 [] trivial (hJ1 _ _ (by omega:n-(j+1)<n-j) ⟨j+1,b,rfl,⟨rM hF.1 ω (ApI ω hx3d),ω⟩,rfl⟩))))
 refine Ab 6 (Ait 58 ((Yr g c n j)=0) (λhx4 hx4d=>?_) (λhx4 hx4d=>?_))
 exact Ab 5 (gs (Cv ((j:Int)+1) ((j+1:Nat):Int) ·) (Ab 2 (Fy [1,4,5,6,7,14,15,16,21,22,23] [(0,0),(1,1)] 2 [] trivial (hJ1 _ _ (by omega:n-(j+1)<n-j) ⟨j+1,b,rfl,⟨rM hF.1 ω (ApJ ω hx4d),ω⟩,rfl⟩))))
 exact Ab 8 (gs (Cv ((j:Int)+1) ((j+1:Nat):Int) ·) (Ab 2 (Fy [1,4,5,6,7,14,15,16,21,22,23] [(0,0),(1,1)] 2 [] trivial (hJ1 _ _ (by omega:n-(j+1)<n-j) ⟨j+1,⟨⟨decide ((Gn c n j).1<0),Ci ((Gn c n j).1).natAbs⟩,⟨decide ((Gn c n j).2<0),Ci ((Gn c n j).2).natAbs⟩⟩,rfl,⟨rL (ApK ω hx3d hx4d),ω⟩,rfl⟩))))
 exact Ab 31 (Nz (r:=Cq b) ⟨b,(show j=n by omega)▸hF.1,rfl⟩)
def ofZ (p:Nat->Int) (L d:Nat):Nat->Int:=λq=>if q<d+1 then ofC p L d q else 0
theorem Ame (L:Nat) (p:Nat->Int) (d:Nat) (hm:L<=25) (hp:∀i,Bd 1000 (p i)) (hd:d<=24):AF Tryz.prog 182 [Dk L p,.int (d:Int)] (Dk (d+1) (ofZ p L d)):=by
 obtain⟨r,⟨g,h1,rfl⟩,h⟩:=ApQ L p d hm hp hd
 have e:g=ofZ p L d:=funext h1
 rw[e] at h
 exact h
theorem Ano {p:Nat->Int} {L d:Nat} (hp:∀i,Bd 1000 (p i)) (hd:d<=24) (q:Nat):Bd 1100 (ofZ p L d q):=by
 unfold ofZ
 split
 exact(oV hp hd ω _ (Nat.min_le_left _ _)).mono (by have:=Nat.min_le_left (q+1) L;omega)
 exact Bd.zero _
theorem kA (n:Nat) (c:Nat->Int) (g:Bool) (hn:n<=25) (h0:0<n) (hc:∀q,Bn (c q)):AF Tryz.prog 184 [.slc 1 1 λ_=>Dk n c,.bool g] (Iu (Qi g c n n).1 (Qi g c n n).2):=by
 obtain⟨r,⟨b,h1,rfl⟩,h⟩:=Akp n c g hn hc
 rcases h1 with⟨h2,_⟩|⟨_,h2⟩
 omega
 rw[h2] at h;exact h
abbrev AlM (x y:Int):Value:= .agg #[.bool (decide (x<0)),.string (Ci x.natAbs),.bool (decide (y<0)),.string (Ci y.natAbs)]
theorem AfR {e:Nat} {z:Int} (h:Bd e z):bitLen z.natAbs<=e+1:=Fm.2 (Nat.lt_of_le_of_lt h.le (Nat.pow_lt_pow_right δ (Nat.lt_succ_self e)))
theorem vW (n:Nat) (c:Nat->Int) (hn:n<=25) (hc:∀q,Bn (c q)):AF Tryz.prog 221 [Dk n c,.fn 222 []] (.bool false):=by
 refine As func221 rfl λB D0 hA0=>?_
 refine Ae 9 (Al4 0 func241 (λ_ hD1=>?_))
 refine Ae 14 (Uz [0,1,7,8] n (λq=>True) (λq=>⟨[(0,Dk n c),(1,.fn 222 []),(7,.int (n:Int)),(8,.int (q:Int))],[],0,19⟩) trivial (λq hqn hFq J1 hJ1=>?_))
 refine Ae 6 (Gp 9 ((q:Int)<(n:Int)) (λhx2 hx2d=>?_) (λhx2 hx2d=>?_))
 ·
  refine Ae 16 (Gu q n (Ae 1 (mL 0 func222 (λ_ hD3=>?_))))
  exact Ae 9 (Ao (Ee (c q) (hc q)) (Ae 5 (vrI (Ae 7 (Cv ((q:Int)+1) ((q+1:Nat):Int) (Ae 2 (Ki [0,1,7,8] [] 0 0 hD1 [] trivial (hJ1 ω trivial))))))))
 ·
  exact Ae 12 (vrI (Ae 5 (Ck)))
theorem vY (n:Nat) (c:Nat->Int) (hn:n<=25) (h0:0<n) (hc:∀q,Bn (c q)):AF Tryz.prog 183 [Dk n c] (.bool true):=by
 refine As func183 rfl λB D0 hA0=>?_
 exact Ae 11 (Jb 6 (decide ((1:Int)<=(n:Int))) true (decide_eq_true ω) (Ae 5 (Jb 11 (decide ((n:Int)<=25)) true (decide_eq_true ω) (Ae 1 (Ao (vW n c hn hc) (Ae 6 (Ck)))))))
theorem jX (n:Nat) (c:Nat->Int) (hn:n<=1000000) (hc:∀i,i<n->Bn (c i)):AF Tryz.prog 181 [Dk n c] (.int (Dp c n)):=by
 refine As func181 rfl λB D0 hA0=>?_
 refine Ae 19 (Uz [3,6,7,8] n (λi=>True) (λi=>⟨[(3,.int (Dp c i)),(6,Dk n c),(7,.int (n:Int)),(8,.int (i:Int))],[],0,18⟩) trivial (λi hin hFi J1 hJ1=>?_))
 refine Ae 6 (Gp 9 ((i:Int)<(n:Int)) (λhx1 hx1d=>?_) (λhx1 hx1d=>?_))
 ·
  exact Ae 7 (Gu i n (Ae 8 (Ao (mZ (c i) (hc i ω)) (Cu (.int (max (Dp c i) (bitLen (c i).natAbs:Int))) .none (Jl (.tmp 12) (.tmp 14) #[3,3] κ (Dp c i) (bitLen (c i).natAbs:Int) κ κ) (Ae 5 (Cv ((i:Int)+1) ((i+1:Nat):Int) (Ae 2 (Ki [3,6,7,8] [] 0 0 hA0 [] trivial (hJ1 ω trivial)))))))))
 ·
  exact Ae 13 (Fd (.int (Dp c i)) (congrArg (λz=>AV.int (Dp c z)) (show _=n by omega)))
theorem AeZ (L:Nat) (p:Nat->Int) (d:Nat) (hp:∀i,Bd 1000 (p i)) (hl:L=0\/p (L-1)≠0) (hL:L<=d+1) (hd:d<=24):AF Tryz.prog 131 [Dk L p,.int (d:Int)] (.tup [Dk (d+1) (ofZ p L d),.int 0]):=by
 have hs:=Za (c:=p) (k:=1001) L (λi _=>AfR (hp i))
 refine As func131 rfl λB D0 hA0=>?_
 exact Ae 11 (Ao (Rg L p ω (λi _=>(hp i).fit δ) hl) (Ae 6 (Jb 14 (decide ((d:Int)<0)) false (decide_eq_false ω) (Ae 6 (Jb 6 (decide ((24:Int)<(d:Int))) false (decide_eq_false ω) (Ae 6 (Cv ((L:Int)-1) ((L:Int)-1) (Ae 4 (Jb 18 (decide ((d:Int)<(L:Int)-1)) false (decide_eq_false ω) (Ae 4 (Ao (jX L p ω (λi _=>(hp i).fit δ)) (Cv ((Dp p L)+30) ((Dp p L)+30) (Ae 4 (Jb 24 (decide ((65536:Int)<(Dp p L)+30)) false (decide_eq_false ω) (Ae 8 (Ao (Ame L p d ω hp hd) (Ae 5 (Ck))))))))))))))))))
theorem vV (n:Nat) (c:Nat->Int) (hn:n<=25) (h0:0<n) (hc:∀q,Bd 1100 (c q)):AF Tryz.prog 132 [Dk n c] (.lit (.tuple #[AlM (Qi false c n n).1 (Qi false c n n).2,AlM (Qi true c n n).1 (Qi true c n n).2,.int .i64 0])):=by
 have hs:=Za (c:=c) (k:=1101) n (λi _=>AfR (hc i))
 refine As func132 rfl λB D0 hA0=>?_
 refine Ae 18 (Ao (vY n c hn h0 (λq=>(hc q).fit δ)) (Ae 8 (Ao (jX n c ω (λi _=>(hc i).fit δ)) (Cv ((Dp c n)+30) ((Dp c n)+30) (Ae 4 (Jb 13 (decide ((65536:Int)<(Dp c n)+30)) false (decide_eq_false ω) (Ae 7 (Kb 2 275 1 1 (λ_=>Dk n c) ?_))))))))
 refine Cu (Iu ((Qi false c n n).1) ((Qi false c n n).2)) (.drop 2) (Gr 184 #[.tmp 21,(.const (.bool false))] #[278,4] κ (λ_ _=>by kernel_rfl) 2 (.vec 275 1 1 (λ_=>Dk n c)) κ (λ_ _ _ _ h=>by cases h;exact(Ce λ_ _=>rfl)) [.osl 2 1 1,.bool false] κ [.slc 1 1 (λ_=>Dk n c),.bool false] κ (Iu ((Qi false c n n).1) ((Qi false c n n).2)) (kA n c false hn h0 (λq=>(hc q).fit δ))) (Ae 1 (Kb 3 275 1 1 (λ_=>Dk n c) ?_))
 exact Cu (Iu ((Qi true c n n).1) ((Qi true c n n).2)) (.drop 3) (Gr 184 #[.tmp 24,(.const (.bool true))] #[278,4] κ (λ_ _=>by kernel_rfl) 3 (.vec 275 1 1 (λ_=>Dk n c)) κ (λ_ _ _ _ h=>by cases h;exact(Ce λ_ _=>rfl)) [.osl 3 1 1,.bool true] κ [.slc 1 1 (λ_=>Dk n c),.bool true] κ (Iu ((Qi true c n n).1) ((Qi true c n n).2)) (kA n c true hn h0 (λq=>(hc q).fit δ))) (Ae 6 (Ck))
def Zp (l:List Int) (d k:Nat):Prop:=0<l.length/\l.length<=6/\(∀i,Cj (l.getD i 0))/\d<=8/\k<2^d
theorem Anz {d:Nat} (h:d<=8):2^d<=256:=Nat.le_trans (Nat.pow_le_pow_right δ h) δ
theorem AoX {d:Nat} (h:d<=8):IntKind.wrap .i64 (1*2^min (d:Int).toNat 64)=((2^d:Nat):Int):=by
 match d,h with
 |0,_|1,_|2,_|3,_|4,_|5,_|6,_|7,_|8,_=>decide
theorem AdW (n:Rw) (q:Rr):∃r,Gc [.agg [.b,.s]] r/\AF Tryz.prog 134 [Fx n,Cq q] r:=by
 refine Au func134 rfl ?_
 exact Ab 12 (Dy (eC n q.den) λv1 hv1=>(gs (Ao hv1 ·) (Ab 15 (Bb))))
noncomputable def Ald (n:Rw) (q:Rr):Value:=Kp 134 [.agg [.b,.s]] [Fx n,Cq q]
theorem kF (n:Rw) (q:Rr):AF Tryz.prog 134 [Fx n,Cq q] (.lit (Hp [.agg [.b,.s]] (Ald n q))):=Bi (AdW n q)
theorem Adc (q:Rr):∃r,Gc [.one .i] r/\AF Tryz.prog 136 [Cq q] r:=by
 refine Au func136 rfl ?_
 exact Ab 9 (Dy (Aca q) λv1 hv1=>(gs (Ao hv1 ·) (Ab 11 (Dy (Afx (⟨(gB (gT (gT v1 0) 0)),(gS (gT (gT v1 0) 1))⟩)) λv2 hv2=>(gs (Ao hv2 ·) (Ab 14 (Bb)))))))
noncomputable def Ako (q:Rr):Value:=Kp 136 [.one .i] [Cq q]
theorem jZ (q:Rr):AF Tryz.prog 136 [Cq q] (.lit (Hp [.one .i] (Ako q))):=Bi (Adc q)
theorem Ahc (l:List Int) (o:Int) (d:Nat) (k:Nat) (h0:Zp l d k):∃r,Gc [.one .i,.one .i] r/\AF Tryz.prog 103 [Aw l,.int o,.int (d:Int),.int (k:Int)] r:=by
 have hn1:=h0.1
 have hn2:=h0.2.1
 have hd8:=h0.2.2.2.1
 have hk:=h0.2.2.2.2
 have hp:=Anz hd8
 have hp0:=Nat.two_pow_pos d
 have ho:ocN l<=l.length:=Oa (nN l) l.length
 have ho2:Hh (oc1 l (k:Int) 1 ((2^d:Nat):Int)) (ocN l)<=ocN l:=Oa _ _
 have hn25:Hh (oc1 l (k:Int) 1 ((2^d:Nat):Int)) (ocN l)<=25/\l.length-1<=1000:=⟨ω,ω⟩
 refine Au func103 rfl ?_
 refine Ab 9 (gs (Ao (kE l h0.1 ω h0.2.2.1) ·) (Ab 8 (gs (Cp [(2,_,.none),(3,_,.none),(5,.int ((2^d:Nat):Int),.none),(6,_,.none),(7,_,.none)] [0,1,2,10] ⟨Be (Er (k:Int) ω ω),Be (Er 1 ω ω),En (.int .i64 (IntKind.wrap .i64 (1*2^min (d:Int).toNat 64))) (congrArg (Value.int .i64) (AoX h0.2.2.2.1)),Be (Er ((2^d:Nat):Int) ω ω),Be (dS (ocN l) (nN l) (k:Int) 1 ((2^d:Nat):Int) ω h0.2.2.1 (Sm _ _) ⟨ω,ω⟩ ⟨δ,δ⟩ ⟨ω,ω⟩ ω),trivial⟩ ·) (Ab 6 (gs (Cv ((l.length:Int)-1) ((l.length-1:Nat):Int) ·) (Exists.elim (Akk (wsZ (Hh (oc1 l (k:Int) 1 ((2^d:Nat):Int)) (ocN l)) (oc1 l (k:Int) 1 ((2^d:Nat):Int))) (l.length-1) (by first|omega|exact hn25)) λv1 hv1=>?_))))))
 have hv1n:=hv1.1
 exact gs (Ao hv1.2 ·) (Ab 10 (Dy (AbH v1.1 ω) λv2 hv2=>(gs (Ao hv2 ·) (Ab 14 (Dy (Mh o) λv3 hv3=>(gs (Ao hv3 ·) (Ab 3 (gs (Cv ((l.length:Int)-1) ((l.length-1:Nat):Int) ·) (Ab 1 (Dy (wR (⟨(gB (gT v3 0)),(gS (gT v3 1))⟩) (Ai ((d:Int)*((l.length-1:Nat):Int)))) λv4 hv4=>(gs (Ao hv4 ·) (Ab 12 (Dy (kF (⟨(gB (gT (gT v4 0) 0)),(gS (gT (gT v4 0) 1))⟩) (⟨⟨(gB (gT (gT v2 0) 0)),(gS (gT (gT v2 0) 1))⟩,⟨(gB (gT (gT v2 0) 2)),(gS (gT (gT v2 0) 3))⟩⟩)) λv5 hv5=>(gs (Ao hv5 ·) (Ab 8 (Dy (Zm (⟨(gB (gT (gT v2 0) 0)),(gS (gT (gT v2 0) 1))⟩) (⟨(gB (gT v5 0)),(gS (gT v5 1))⟩)) λv6 hv6=>(gs (Ao hv6 ·) (Ab 11 (Dy (jZ (⟨⟨(gB (gT (gT v6 0) 0)),(gS (gT (gT v6 0) 1))⟩,⟨(gB (gT (gT v6 0) 2)),(gS (gT (gT v6 0) 3))⟩⟩)) λv7 hv7=>(gs (Ao hv7 ·) (Ab 7 (Dy (Af0 (⟨(gB (gT (gT v2 1) 0)),(gS (gT (gT v2 1) 1))⟩)) λv8 hv8=>(gs (Ao hv8 ·) (Ab 11 (gs (Ao hv3 ·) (Ab 3 (gs (Cv ((l.length:Int)-1) ((l.length-1:Nat):Int) ·) (Ab 1 (gs (Ao hv4 ·) (Ab 10 (Dy (kF (⟨(gB (gT (gT v4 0) 0)),(gS (gT (gT v4 0) 1))⟩) (⟨⟨(gB (gT (gT v2 1) 0)),(gS (gT (gT v2 1) 1))⟩,⟨(gB (gT (gT v2 1) 2)),(gS (gT (gT v2 1) 3))⟩⟩)) λv9 hv9=>(gs (Ao hv9 ·) (Ab 7 (Dy (Zm (⟨(gB (gT (gT v8 0) 0)),(gS (gT (gT v8 0) 1))⟩) (⟨(gB (gT v9 0)),(gS (gT v9 1))⟩)) λv10 hv10=>(gs (Ao hv10 ·) (Ab 12 (Dy (jZ (⟨⟨(gB (gT (gT v10 0) 0)),(gS (gT (gT v10 0) 1))⟩,⟨(gB (gT (gT v10 0) 2)),(gS (gT (gT v10 0) 3))⟩⟩)) λv11 hv11=>(gs (Ao hv11 ·) (gs (Cz (.int .i64 (Ai (0-(gI v11)))) (.int .i64 (Ai (0-(gI v11)))) ·) (Ab 5 (Bb)))))))))))))))))))))))))))))))))))))))))
noncomputable def AmQ (l:List Int) (o:Int) (d:Nat) (k:Nat):Value:=Kp 103 [.one .i,.one .i] [Aw l,.int o,.int (d:Int),.int (k:Int)]
theorem dW (l:List Int) (o:Int) (d:Nat) (k:Nat) (h0:Zp l d k):AF Tryz.prog 103 [Aw l,.int o,.int (d:Int),.int (k:Int)] (.lit (Hp [.one .i,.one .i] (AmQ l o d k))):=Bi (Ahc l o d k h0)
theorem qM (s:Sg):AF Tryz.prog 102 [Lt s] (.agg [Aw s.x,Aw s.y,Aw s.z]):=by
 refine As func102 rfl λB D0 hA0=>?_
 exact Ae 19 (Ck)
theorem AfZ (s:Sg) (d:Nat) (k:Nat) (h0:Zp s.x d k/\Zp s.y d k/\Zp s.z d k):∃r,Gc [.agg [.i,.i,.i,.i,.i,.i]] r/\AF Tryz.prog 78 [Lt s,.int (d:Int),.int (k:Int)] r:=by
 refine Au func78 rfl ?_
 exact Ab 16 (gs (Ao (qM s) ·) (Ab 4 (gs (Sv 3 ·) (Ab 14 (gs (Cu (Aw s.x) .none (Ep 171 (.tmp 12) (.tmp 13) κ underlying171 1 sizeOf70 0 false isAgg70 [Aw s.x,Aw s.y,Aw s.z] 0 κ κ ω δ β δ (Aw s.x) κ) ·) (Ab 12 (Dy (dW s.x s.o d k h0.1) λv1 hv1=>(gs (Ao hv1 ·) (Ab 29 (gs (Cu (Aw s.y) .none (Ep 171 (.tmp 12) (.tmp 13) κ underlying171 1 sizeOf70 1 false isAgg70 [Aw s.x,Aw s.y,Aw s.z] 1 κ κ ω δ β δ (Aw s.y) κ) ·) (Ab 12 (Dy (dW s.y s.o d k h0.2.1) λv2 hv2=>(gs (Ao hv2 ·) (Ab 29 (gs (Cu (Aw s.z) .none (Ep 171 (.tmp 12) (.tmp 13) κ underlying171 1 sizeOf70 2 false isAgg70 [Aw s.x,Aw s.y,Aw s.z] 2 κ κ ω δ β δ (Aw s.z) κ) ·) (Ab 12 (Dy (dW s.z s.o d k h0.2.2) λv3 hv3=>(gs (Ao hv3 ·) (Ab 48 (Bb))))))))))))))))))))
noncomputable def Amt (s:Sg) (d:Nat) (k:Nat):Value:=Kp 78 [.agg [.i,.i,.i,.i,.i,.i]] [Lt s,.int (d:Int),.int (k:Int)]
theorem AeW (s:Sg) (d:Nat) (k:Nat) (h0:Zp s.x d k/\Zp s.y d k/\Zp s.z d k):AF Tryz.prog 78 [Lt s,.int (d:Int),.int (k:Int)] (.lit (Hp [.agg [.i,.i,.i,.i,.i,.i]] (Amt s d k))):=Bi (AfZ s d k h0)
theorem Aac {c:Nat->Int} {n j:Nat} (hc:∀q,Bd 1100 (c q)) (hn:n<=25) (hj:j<n):Bd 1100 (Gn c n j).1/\(Gn c n j).2<=3000000:=by
 have w:=dP (n-1) ω j ω
 exact⟨(hc j).div _,Int.le_trans (Int.ediv_le_self _ w.1) w.2⟩
theorem fM {g:Bool} {c:Nat->Int} {n:Nat} (hc:∀q,Bd 1100 (c q)) (hn:n<=25):∀j,0<j->j<=n->Bd 1100 (Qi g c n j).1/\(Qi g c n j).2<=3000000
 |0,h,_=>absurd h (Nat.lt_irrefl 0)
 |j+1,_,h=>by
  have ht:=Aac hc hn (j:=j) ω
  by_cases h0:j=0
  rw[Anb h0];exact ht
  have ih:=fM (g:=g) hc hn j ω ω
  rw[Qi,if_neg h0]
  split
  exact ih
  split
  exact ih
  exact ht
abbrev spP (l:List Int) (d k:Nat):Nat->Int:=oc1 l (k:Int) 1 ((2^d:Nat):Int)
abbrev spN (l:List Int) (d k:Nat):Nat:=Hh (spP l d k) (ocN l)
abbrev spC (l:List Int) (d k:Nat):Nat->Int:=ofZ (spP l d k) (spN l d k) (l.length-1)
abbrev pU (g:Bool) (l:List Int) (d k:Nat):Int×Int:=Qi g (spC l d k) (l.length-1+1) (l.length-1+1)
abbrev spB (g:Bool) (l:List Int) (o:Int) (d k:Nat):Int:=o*((2^(d*(l.length-1)):Nat):Int)*(pU g l d k).2
def flI (x y:Int):Int:=iR (x/Tz x y/(y/Tz x y))
def aL (l:List Int) (o:Int) (d k:Nat):Int:=flI (pU false l d k).1 (spB false l o d k)
def Mb (l:List Int) (o:Int) (d k:Nat):Int:=flI (-(pU true l d k).1) (spB true l o d k)
theorem dZ (n x y:Int) (hn:Bn n) (hy:Bn y) (hf:Bn (n*y)):AF Tryz.prog 134 [WA n,Iu x y] (WA (n*y)):=by
 refine As func134 rfl λB D0 hA0=>?_
 exact Ae 12 (Ao (cV n y hn hy hf) (Ae 15 (Ck)))
theorem dV (x y:Int) (hx:Bn x) (hy:Bn y) (hp:0<y):AF Tryz.prog 136 [Iu x y] (.int (iR (x/y))):=by
 refine As func136 rfl λB D0 hA0=>?_
 exact Ae 9 (Ao (wK x y hx hy hp) (Ae 11 (Ao (qX (x/y) (Rv hx)) (Ae 14 (Ck)))))
theorem Afz (x:Int) (hx:Bn x) (hn:Bn (-x)):AF Tryz.prog 137 [WA x] (.lit (.tuple #[Ak (-x),.int .i64 0])):=by
 have:=qZ x hx
 rwa [Gf hn,Jz hn] at this
theorem Bd.neg {e:Nat} {x:Int} (h:Bd e x):Bd e (-x):=⟨by rw[Int.natAbs_neg];exact h.le⟩
theorem AjE (k:Nat):Bd k ((2^k:Nat):Int):=⟨by rw[Int.natAbs_natCast];exact Nat.le_refl _⟩
theorem eA (l:List Int) (o:Int) (d k:Nat) (h0:Zp l d k) (h1:0<o/\o<=9223372036854775807) (h2: -9223372036854775807<=Mb l o d k/\Mb l o d k<=9223372036854775807):AF Tryz.prog 103 [Aw l,.int o,.int (d:Int),.int (k:Int)] (.lit (.tuple #[.int .i64 (aL l o d k),.int .i64 (-Mb l o d k)])):=by
 have hn1:=h0.1
 have hn2:=h0.2.1
 have hd8:=h0.2.2.2.1
 have hk:=h0.2.2.2.2
 have hp:=Anz hd8
 have hp0:=Nat.two_pow_pos d
 have ho:ocN l<=l.length:=Oa (nN l) l.length
 have ho2:spN l d k<=ocN l:=Oa _ _
 have hdk:(d:Int)*((l.length-1:Nat):Int)=((d*(l.length-1):Nat):Int):=(Int.natCast_mul _ _).symm
 have hd40:d*(l.length-1)<=8*5:=Nat.mul_le_mul hd8 ω
 have hbd:∀i,Bd 1000 (spP l d k i):=λi=>(Anm h0.2.2.1 ω ⟨ω,ω⟩ ⟨δ,δ⟩ ⟨ω,ω⟩ i).mono δ
 have hcb:∀q,Bd 1100 (spC l d k q):=Ano hbd ω
 have hcf:∀q,Bn (spC l d k q):=λq=>(hcb q).fit δ
 have hL:=Aba (g:=false) hcf (by omega:l.length-1+1<=25) (l.length-1+1) ω ζ
 have hU:=Aba (g:=true) hcf (by omega:l.length-1+1<=25) (l.length-1+1) ω ζ
 have sL:=fM (g:=false) hcb (by omega:l.length-1+1<=25) (l.length-1+1) ω ζ
 have sU:=fM (g:=true) hcb (by omega:l.length-1+1<=25) (l.length-1+1) ω ζ
 have hsh:Bd 200 (o*((2^(d*(l.length-1)):Nat):Int)):=((Bd.int (by omega: -9223372036854775808<=o) ω).mul (AjE _)).mono ω
 have hbl:Bn (spB false l o d k):=(hsh.mul (Bd.int (x:=(pU false l d k).2) (Int.le_trans δ (Int.le_of_lt hL.2.2)) (Int.le_trans sL.2 δ))).fit δ
 have hbu:Bn (spB true l o d k):=(hsh.mul (Bd.int (x:=(pU true l d k).2) (Int.le_trans δ (Int.le_of_lt hU.2.2)) (Int.le_trans sU.2 δ))).fit δ
 have hsp:0<o*((2^(d*(l.length-1)):Nat):Int):=Int.mul_pos h1.1 (by have:=Nat.two_pow_pos (d*(l.length-1));omega)
 have hpl:0<spB false l o d k:=Int.mul_pos hsp hL.2.2
 have hpu:0<spB true l o d k:=Int.mul_pos hsp hU.2.2
 have hN:Bn (-(pU true l d k).1):=sU.1.neg.fit δ
 refine As func103 rfl λB D0 hA0=>?_
 refine Ae 9 (Ao (kE l h0.1 ω h0.2.2.1) (Ae 8 (Cp [(2,_,.none),(3,_,.none),(5,.int ((2^d:Nat):Int),.none),(6,_,.none),(7,_,.none)] [0,1,2,10] ⟨Be (Er (k:Int) ω ω),Be (Er 1 ω ω),En (.int .i64 (IntKind.wrap .i64 (1*2^min (d:Int).toNat 64))) (congrArg (Value.int .i64) (AoX h0.2.2.2.1)),Be (Er ((2^d:Nat):Int) ω ω),Be (dS (ocN l) (nN l) (k:Int) 1 ((2^d:Nat):Int) ω h0.2.2.1 (Sm _ _) ⟨ω,ω⟩ ⟨δ,δ⟩ ⟨ω,ω⟩ ω),trivial⟩ (Ae 6 (Cv ((l.length:Int)-1) ((l.length-1:Nat):Int) (Ao (AeZ (spN l d k) (spP l d k) (l.length-1) hbd (Sm _ _) ω ω) (Ae 10 (Ao (vV (l.length-1+1) (spC l d k) ω ω hcb) (Ae 14 (Ao (Er o ω ω) (Ae 3 (Cv ((l.length:Int)-1) ((l.length-1:Nat):Int) (Cz (.int .i64 (IntKind.wrap .i64 ((d:Int)*((l.length-1:Nat):Int)))) (.int .i64 ((d*(l.length-1):Nat):Int)) ?_ (congrArg (Value.int .i64) ((IntWalk.i64_in _ ω).trans (by rw[Int.natCast_mul]))))))))))))))))
 exact Ao (eD o (d*(l.length-1)) (Eg ω ω) ω (hsh.fit δ)) (Ae 12 (Ao (dZ (o*((2^(d*(l.length-1)):Nat):Int)) ((pU false l d k).1) ((pU false l d k).2) (hsh.fit δ) hL.2.1 hbl) (Ae 8 (Ao (Wf ((pU false l d k).1) (spB false l o d k) hL.1 hbl hpl) (Ae 11 (Ao (dV (((pU false l d k).1)/Tz ((pU false l d k).1) (spB false l o d k)) ((spB false l o d k)/Tz ((pU false l d k).1) (spB false l o d k)) (Wr hL.1 hbl hpl).1 (Wr hL.1 hbl hpl).2.1 (Wr hL.1 hbl hpl).2.2) (Ae 7 (Ao (Afz (pU true l d k).1 hU.1 hN) (Ae 11 (Ao (Er o ω ω) (Ae 3 (Cv ((l.length:Int)-1) ((l.length-1:Nat):Int) (Cv ((d:Int)*((l.length-1:Nat):Int)) ((d:Int)*((l.length-1:Nat):Int)) (Ao (eD o (d*(l.length-1)) (Eg ω ω) ω (hsh.fit δ)) (Ae 10 (Ao (dZ (o*((2^(d*(l.length-1)):Nat):Int)) ((pU true l d k).1) ((pU true l d k).2) (hsh.fit δ) hU.2.1 hbu) (Ae 7 (Ao (Wf (-(pU true l d k).1) (spB true l o d k) hN hbu hpu) (Ae 12 (Ao (dV ((-(pU true l d k).1)/Tz (-(pU true l d k).1) (spB true l o d k)) ((spB true l o d k)/Tz (-(pU true l d k).1) (spB true l o d k)) (Wr hN hbu hpu).1 (Wr hN hbu hpu).2.1 (Wr hN hbu hpu).2.2) (Cv (0-(Mb l o d k)) (-Mb l o d k) (Ae 5 (Ck)))))))))))))))))))))))
structure Bx where
 lo:V3
 hi:V3
abbrev bxV (b:Bx):Value:= .agg #[.int .i64 b.lo.x,.int .i64 b.lo.y,.int .i64 b.lo.z,.int .i64 b.hi.x,.int .i64 b.hi.y,.int .i64 b.hi.z]
abbrev bxA (b:Bx):AV:= .lit (bxV b)
def Gv:Prop:=∀(f:Mi) (a b:V3),Zh f->∃r,Gc [.one .b,.one .i] r/\AF Tryz.prog 106 [Kk f,Bf a,Bf b] r
noncomputable def AmO (f:Mi) (a b:V3):Value:=Kp 106 [.one .b,.one .i] [Kk f,Bf a,Bf b]
theorem Xf (f:Mi) (a b:V3) (h:Gv/\Zh f):AF Tryz.prog 106 [Kk f,Bf a,Bf b] (.lit (Hp [.one .b,.one .i] (AmO f a b))):=Bi (h.1 f a b h.2)
theorem AjG (b:Bx) (v:V3):∃r,Gc [.one .b] r/\AF Tryz.prog 104 [bxA b,Bf v] r:=by
 refine Au func104 rfl ?_
 refine Ab 16 (Ew 11 ?_ ?_)
 refine Ab 8 (Ew 19 ?_ ?_)
 refine Ab 8 (Ew 27 ?_ ?_)
 exact Ab 11 (Bb)
 exact Ab 11 (Bb)
 exact Ab 19 (Bb)
 exact Ab 27 (Bb)
noncomputable def Aou (b:Bx) (v:V3):Value:=Kp 104 [.one .b] [bxA b,Bf v]
theorem Aji (b:Bx) (v:V3):AF Tryz.prog 104 [bxA b,Bf v] (.lit (Hp [.one .b] (Aou b v))):=Bi (AjG b v)
theorem yE (l:Vs) (b:Bx) (h0:l.n<=64):∃r,Gc [.one .b] r/\AF Tryz.prog 49 [Cd l,.lit (.func (.func 104) #[bxV b] #[])] r:=by
 refine Au func49 rfl ?_
 refine Ab 9 (cE func80 (Ab 14 (Vl [0,1,7,8] (λm s=>∃q,m=l.n-q/\(q<=l.n)/\s=⟨[(0,Cd l),(1,.lit (.func (.func 104) #[.agg #[.int .i64 b.lo.x,.int .i64 b.lo.y,.int .i64 b.lo.z,.int .i64 b.hi.x,.int .i64 b.hi.y,.int .i64 b.hi.z]] #[])),(7,.int (l.n:Int)),(8,.int (q:Int))],[],0,19⟩) (l.n-0) ⟨0,rfl,Nat.zero_le _,κ⟩ ?_)))
 rintro _ _ ⟨q,rfl,hF,rfl⟩ hJ1
 refine Ab 6 (Hn 9 ((q:Int)<(l.n:Int)) (λhx2 hx2d=>?_) (λhx2 hx2d=>?_))
 refine Ab 16 (gs (Gu q l.n ·) (Ab 1 (Dy (Aji b (l.f q)) λv3 hv3=>(gs (vcm (b:= .agg #[.int .i64 b.lo.x,.int .i64 b.lo.y,.int .i64 b.lo.z,.int .i64 b.hi.x,.int .i64 b.hi.y,.int .i64 b.hi.z]) hv3 ·) (Ab 2 (Ew 16 ?_ ?_))))))
 exact Ab 13 (Iy (Ab 5 (Bb)))
 exact Ab 5 (gs (Cv ((q:Int)+1) ((q+1:Nat):Int) ·) (Ab 2 (mH [0,1,7,8] (hJ1 _ _ (by omega:l.n-(q+1)<l.n-q) ⟨q+1,rfl,ω,rfl⟩))))
 exact Ab 12 (Iy (Ab 5 (Bb)))
noncomputable def AgW (l:Vs) (b:Bx):Value:=Kp 49 [.one .b] [Cd l,.lit (.func (.func 104) #[bxV b] #[])]
theorem wB (l:Vs) (b:Bx) (h0:l.n<=64):AF Tryz.prog 49 [Cd l,.lit (.func (.func 104) #[bxV b] #[])] (.lit (Hp [.one .b] (AgW l b))):=Bi (yE l b h0)
theorem Wd (b:Bx):AF Tryz.prog 105 [bxA b] (.lit (.agg #[.int .i64 b.lo.x,.int .i64 b.lo.y,.int .i64 b.lo.z,.int .i64 b.hi.x,.int .i64 b.lo.y,.int .i64 b.lo.z,.int .i64 b.hi.x,.int .i64 b.hi.y,.int .i64 b.lo.z,.int .i64 b.lo.x,.int .i64 b.hi.y,.int .i64 b.lo.z])):=by
 refine As func105 rfl λB D0 hA0=>?_
 exact Ae 7 (Cp [] [2,3,4] trivial (Ae 30 (Ck)))
theorem AcW (b:Bx) (f:Mi) (h0:Gv/\Zh f):∃r,Gc [.one .b] r/\AF Tryz.prog 79 [bxA b,Kk f] r:=by
 have hn8:=h0.2.1
 have hn9:=h0.2.2.1
 refine Au func79 rfl ?_
 refine Ab 17 (Ew 17 ?_ ?_)
 exact Ab 17 (Bb)
 refine Ab 9 (Ew 24 ?_ ?_)
 exact Ab 8 (Bb)
 refine Ab 13 (Vl [2,3,26,27,28] (λm s=>∃q,m=f.hn-q/\(q<=f.hn)/\s=⟨[(2,.ptr 0 0),(3,.ptr 1 0),(26,hsA f),(27,.int (f.hn:Int)),(28,.int (q:Int))],[(0,.box 145 [.int b.lo.x,.int b.lo.y,.int b.lo.z,.int b.hi.x,.int b.hi.y,.int b.hi.z]),(1,.box 25 [Cd f.o,hsA f,.int f.low,.int f.high])],2,58⟩) (f.hn-0) ⟨0,rfl,Nat.zero_le _,κ⟩ ?_)
 rintro _ _ ⟨q,rfl,hF,rfl⟩ hJ1
 have hnq:=h0.2.2.2 q
 refine Ab 6 (Hn 29 ((q:Int)<(f.hn:Int)) (λhx2 hx2d=>?_) (λhx2 hx2d=>?_))
 refine Ab 7 (gs (Gu q f.hn ·) (Ab 8 (gs (Cz (.func (.func 104) #[.agg #[.int .i64 b.lo.x,.int .i64 b.lo.y,.int .i64 b.lo.z,.int .i64 b.hi.x,.int .i64 b.hi.y,.int .i64 b.hi.z]] #[]) (.func (.func 104) #[.agg #[.int .i64 b.lo.x,.int .i64 b.lo.y,.int .i64 b.lo.z,.int .i64 b.hi.x,.int .i64 b.hi.y,.int .i64 b.hi.z]] #[]) ·) (Dy (wB (f.h q) b ω) λv3 hv3=>(gs (Ao hv3 ·) (Ab 2 (Ew 35 ?_ ?_)))))))
 exact Ab 12 (Bb)
 exact Ab 5 (gs (Cv ((q:Int)+1) ((q+1:Nat):Int) ·) (Ab 2 (mH [2,3,26,27,28] (hJ1 _ _ (by omega:f.hn-(q+1)<f.hn-q) ⟨q+1,rfl,ω,rfl⟩))))
 refine Ab 9 (gs (Ao (Wd b) ·) (Ab 11 (gs (Sv 4 ·) (Ab 18 (Dy (Xf f b.lo (⟨b.hi.x,b.lo.y,b.lo.z⟩) h0) λv4 hv4=>(gs (Cp [(9,_,.none)] [3,7,9,39] ⟨Be hv4,trivial⟩ ·) (Ab 7 (Ew 56 ?_ ?_))))))))
 exact Ab 12 (Bb)
 refine Ab 27 (Dy (Xf f (⟨b.hi.x,b.lo.y,b.lo.z⟩) (⟨b.hi.x,b.hi.y,b.lo.z⟩) h0) λv5 hv5=>(gs (Cp [(9,_,.none)] [3,7,9,39] ⟨Be hv5,trivial⟩ ·) (Ab 7 (Ew 56 ?_ ?_))))
 exact Ab 12 (Bb)
 refine Ab 27 (Dy (Xf f (⟨b.hi.x,b.hi.y,b.lo.z⟩) (⟨b.lo.x,b.hi.y,b.lo.z⟩) h0) λv6 hv6=>(gs (Cp [(9,_,.none)] [3,7,9,39] ⟨Be hv6,trivial⟩ ·) (Ab 7 (Ew 56 ?_ ?_))))
 exact Ab 12 (Bb)
 refine Ab 27 (Dy (Xf f (⟨b.lo.x,b.hi.y,b.lo.z⟩) b.lo h0) λv7 hv7=>(gs (Cp [(9,_,.none)] [3,7,9,39] ⟨Be hv7,trivial⟩ ·) (Ab 7 (Ew 56 ?_ ?_))))
 exact Ab 12 (Bb)
 exact Ab 27 (Bb)
noncomputable def Akl (b:Bx) (f:Mi):Value:=Kp 79 [.one .b] [bxA b,Kk f]
theorem AbS (b:Bx) (f:Mi) (h0:Gv/\Zh f):AF Tryz.prog 79 [bxA b,Kk f] (.lit (Hp [.one .b] (Akl b f))):=Bi (AcW b f h0)
def AlJ:Nat->Nat
 |0=>0
 |_+1=>1
def AlK (g:FuncId) (x y:AV):Nat->AV
 |0=> .top
 |m+1=> .fn g [x,y,.elt (AlJ m) λ_=>AlK g x y m]
abbrev tX (g:FuncId) (x y:AV) (m:Nat):AV:= .elt (AlJ m) λ_=>AlK g x y m
theorem AmI {E:Ar} {g:FuncId} {l:List AV} {v:Value} (h:VR E (.fn g l) v):∃vs,v= .func (.func g) #[] vs/\vs.size=l.length/\∀i,i<l.length->VR E (l.getD i .top) (vs.getD i undef):=by
 cases h with
 |fn _ _ _ vs hn h=>exact⟨vs,rfl,hn,h⟩
theorem AhN {B:Nat} {D0 E:Ar} {c:Nat->Option Bc} (hh:HR B D0 E c) {id:Nat} {t:TypeId} {g:FuncId} {x y:AV} (hx:x.flat=true) (hy:y.flat=true) (hc:c id=some (.box t [.fn g [x,y,.ptr id 0]])):∀(m:Nat) (v:Value),VR E (.ptr id 0) v->VR (E.fr id).fz (tX g x y m) v:=by
 obtain⟨arr,hb,hvs⟩:=hh.box hc
 obtain⟨vs,e1,e2,e3⟩:=AmI (hvs.2 0)
 have h0:=e3 0 (by simp)
 have h1:=e3 1 (by simp)
 have h2:=e3 2 (by simp)
 intro m
 induction m with
 |zero=>
  intro v hv
  cases hv with
  |ptr _ _ _ hA=>exact .elt _ _ _ _ _ (λ_=>undef) (.inr rfl) (λj hj=>absurd hj (Nat.not_lt_zero j)) λj hj=>absurd hj (Nat.not_lt_zero j)
 |succ m ih=>
  intro v hv
  have hsz:0<arr.size:=by rw[hvs.1];simp
  cases hv with
  |ptr _ _ _ hA=>
   refine .elt _ _ _ _ _ (λj=>arr.getD j undef) (.inr rfl) (λj hj=>?_) λj hj=>?_
   obtain rfl:j=0:=by have:j<1:=hj;omega
   exact Jj hb hsz
   obtain rfl:j=0:=by have:j<1:=hj;omega
   show VR _ (.fn g [x,y,tX g x y m]) (arr.getD 0 undef)
   rw[e1]
   refine .fn _ _ _ _ (by rw[e2];rfl) λi hi=>?_
   match i,hi with
   |0,_=>exact(h0.flat hx).up (E.le_fr id).fz
   |1,_=>exact(h1.flat hy).up (E.le_fr id).fz
   |2,_=>exact ih _ h2
def frzP (id:Nat) (V:AV):AV->AV
 | .ptr id' off=>if id'=id then (if off=0 then V else .top) else .ptr id' off
 |x=>x
def Bu.frzP (c:Bu) (id:Nat) (V:AV):Bu:=⟨c.m,c.k,⟨mapT (YtihcpmmopejpoaaGreatDoor.frzP id V) c.s.t,(Hf c.s.h id).map λp=>(p.1,p.2.mapB (YtihcpmmopejpoaaGreatDoor.frzP id V)),c.s.nx,c.s.n⟩⟩
theorem AnJ {P:Program} {R:Option Nat} {B:Nat} {D0:Ar} {Q:Exit->St->Prop} {c:Bu} (id:Nat) (g:FuncId) (x y:AV) (m:Nat) (hk:Go P R B D0 Q (c.frzP id (tX g x y m))) (hc:Aq c.s.h id=some (.box (c.boxT id) [.fn g [x,y,.ptr id 0]]):=by kernel_rfl) (hf:(x.flat&&y.flat)=true:=by kernel_rfl):Go P R B D0 Q c:=by
 obtain⟨hx,hy⟩:=Bool.and_eq_true_iff.1 hf
 refine Fw _ (λE a hs=>Ty id (YtihcpmmopejpoaaGreatDoor.frzP id (tX g x y m)) _ rfl hc (λE z v hh hv=>?_) E a hs) hk
 have up:=hv.up (E.le_fr id)
 unfold YtihcpmmopejpoaaGreatDoor.frzP
 split
 rename_i id' off
 by_cases e1:id'=id
 subst e1
 rw[if_pos rfl]
 by_cases e2:off=0
 subst e2
 rw[if_pos rfl]
 exact(AhN hh hx hy hc m v hv).up (Ar.fz_le _)
 rw[if_neg e2];exact .top _ _
 rw[if_neg e1];exact up
 exact up
abbrev Hr (s:Sg):AV:= .elt 6 λxi=>[AV.int s.f,AV.int s.t,AV.int s.o,Aw s.x,Aw s.y,Aw s.z].getD (0+xi) .top
abbrev Qh (f:Mi):AV:= .elt 4 λxi=>[Cd f.o,hsA f,AV.int f.low,AV.int f.high].getD (0+xi) .top
def SB (s:Sg):Prop:=∀d k,d<=8->k<2^d->Zp s.x d k/\Zp s.y d k/\Zp s.z d k
theorem Aoq {s:Sg} (h:Zo s) (ho:Ib s):SB s:=λd k hd hk=>
 ⟨⟨by have:=ho.2.1.1;omega,ho.2.1.2.1,h.x,hd,hk⟩,⟨by have:=ho.2.2.1.1;omega,ho.2.2.1.2.1,h.y,hd,hk⟩,⟨by have:=ho.2.2.2.1.1;omega,ho.2.2.2.1.2.1,h.z,hd,hk⟩⟩
theorem AoW {f:FuncId} {args:List AV} (h:∃r,Gc [.one .b] r/\AF Tryz.prog f args r):∃b:Bool,AF Tryz.prog f args (.bool b):=⟨_,Bi h⟩
abbrev Vj (s:Sg) (f:Mi):Nat->AV:=tX 77 (Hr s) (Qh f)
theorem Acx (s:Sg) (f:Mi) (h0:Gv/\Zh f) (hs:SB s):∀(m d k:Nat),d<=8->8-d<m->k<2^d->∃b:Bool,AF Tryz.prog 77 [.int (d:Int),.int (k:Int),Hr s,Qh f,Vj s f m] (.bool b):=by
 intro m
 induction m with
 |zero=>intro d k _ h;exact absurd h (Nat.not_lt_zero _)
 |succ m ih=>
  intro d k hd hm hk
  have hp:=Anz hd
  have hbx:=hs d k hd hk
  refine AoW (Au func77 rfl ?_)
  refine Ab 6 (Dy (AeW s d k hbx) λv1 hv1=>(Dy (AbS (⟨⟨(gI (gT v1 0)),(gI (gT v1 1)),(gI (gT v1 2))⟩,⟨(gI (gT v1 3)),(gI (gT v1 4)),(gI (gT v1 5))⟩⟩) f h0) λv2 hv2=>?_))
  refine Ek (gB v2) (λhx3=>?_) (λhx3=>?_)
  exact gs (Cp [(3,_,.none),(5,.bool true,.none)] [7] ⟨Be hv1,Zy hx3 (Be hv2),trivial⟩ ·) (Ab 2 (Bb))
  refine vsp ((d:Int)<8) (λhx4 hx4d=>?_) (λhx4 hx4d=>?_)
  refine Exists.elim (ih (d+1) (2*k) ω ω (by rw[Nat.pow_succ];omega)) λv5 hv5=>?_
  refine Ek v5 (λhx6=>?_) (λhx6=>?_)
  exact Exists.elim (ih (d+1) (2*k+1) ω ω (by rw[Nat.pow_succ];omega)) λv7 hv7=>(gs (Cp [(3,_,.none),(5,.bool false,.none),(8,.bool true,.none),(12,.int ((d+1:Nat):Int),.none),(14,.int ((2*k:Nat):Int),.none),(15,.bool true,.none),(20,.int ((d+1:Nat):Int),.none),(22,.int ((2*k:Nat):Int),.none),(23,.int ((2*k+1:Nat):Int),.none),(24,_,.none)] [7] ⟨Be hv1,Zy hx3 (Be hv2),vK hx4,En (.int .i64 (IntKind.wrap .i64 ((d:Int)+1))) η,En (.int .i64 (IntKind.wrap .i64 (2*(k:Int)))) η,Zy hx6 (Lk hv5),En (.int .i64 (IntKind.wrap .i64 ((d:Int)+1))) η,En (.int .i64 (IntKind.wrap .i64 (2*(k:Int)))) η,En (.int .i64 (IntKind.wrap .i64 (((2*k:Nat):Int)+1))) η,Lk hv7,trivial⟩ ·) (Ab 2 (Bb)))
  exact gs (Cp [(3,_,.none),(5,.bool false,.none),(8,.bool true,.none),(12,.int ((d+1:Nat):Int),.none),(14,.int ((2*k:Nat):Int),.none),(15,.bool false,.none)] [7] ⟨Be hv1,Zy hx3 (Be hv2),vK hx4,En (.int .i64 (IntKind.wrap .i64 ((d:Int)+1))) η,En (.int .i64 (IntKind.wrap .i64 (2*(k:Int)))) η,Zy hx6 (Lk hv5),trivial⟩ ·) (Ab 2 (Bb))
  exact gs (Cp [(3,_,.none),(5,.bool false,.none),(8,.bool false,.none)] [7] ⟨Be hv1,Zy hx3 (Be hv2),vK hx4,trivial⟩ ·) (Ab 2 (Bb))
theorem AcZ (f:Mi) (s:Sg) (h0:(Gv/\Zh f)/\SB s):∃r,Gc [.one .b] r/\AF Tryz.prog 48 [Kk f,Lt s] r:=by
 refine Au func48 rfl ?_
 exact Ab 12 (gs (Xb 0 ·) (gs (Xb 1 ·) (Ab 6 (gs (AnJ 2 77 (Hr s) (Qh f) 10 ·) (Ab 3 (Exists.elim (Acx s f h0.1 h0.2 9 0 0 δ δ δ) λv1 hv1=>(gs (cG hv1 ·) (Ab 4 (Bb)))))))))
noncomputable def Akm (f:Mi) (s:Sg):Value:=Kp 48 [.one .b] [Kk f,Lt s]
theorem AbU (f:Mi) (s:Sg) (h0:(Gv/\Zh f)/\SB s):AF Tryz.prog 48 [Kk f,Lt s] (.lit (Hp [.one .b] (Akm f s))):=Bi (AcZ f s h0)
theorem yH (s:Sg) (f:Mi) (h0:(Gv/\Zh f)/\SB s):∃r,Gc [.one .b] r/\AF Tryz.prog 47 [Lt s,Qh f] r:=by
 refine Au func47 rfl ?_
 exact Ab 10 (Dy (AbU f s h0) λv1 hv1=>(gs (Ao hv1 ·) (Ab 5 (Bb))))
noncomputable def AgY (s:Sg) (f:Mi):Value:=Kp 47 [.one .b] [Lt s,Qh f]
theorem wE (s:Sg) (f:Mi) (h0:(Gv/\Zh f)/\SB s):AF Tryz.prog 47 [Lt s,Qh f] (.lit (Hp [.one .b] (AgY s f))):=Bi (yH s f h0)
theorem Adb (f:Mi) (l:List Sg) (h0:Gv/\Zh f/\Pp l):∃r,Gc [.one .i,.one .b,.one .i] r/\AF Tryz.prog 32 [Kk f,Ga l] r:=by
 have hfok:=h0.2.1
 have hl7:=h0.2.2.1
 refine Au func32 rfl ?_
 refine Ab 12 (gs (Ao (Ql f hfok) ·) (Ab 2 (Ew 11 ?_ ?_)))
 exact Ab 16 (Bb)
 refine Ab 1 (gs (Ao (Xn l h0.2.2) ·) (Ab 4 (Ais 15 (bP (Wh l)) (λhx2=>?_) (λhx2=>?_))))
 refine Ab 3 (gs (Xb 0 ·) ?_)
 have hok:=Aa7 hx2
 have hl6:=hok.2.2
 refine Ab 4 (cE func46 (Ab 14 (Vl [0,1,7,8] (λm s=>∃q,m=l.length-q/\(q<=l.length)/\s=⟨[(0,Ga l),(1,.fn 47 [Qh f]),(7,.int ((l).length:Int)),(8,.int (q:Int))],[],1,19⟩) (l.length-0) ⟨0,rfl,Nat.zero_le _,κ⟩ ?_)))
 rintro _ _ ⟨q,rfl,hF,rfl⟩ hJ1
 refine Ab 6 (Hn 9 ((q:Int)<((l).length:Int)) (λhx4 hx4d=>?_) (λhx4 hx4d=>?_))
 refine Ab 16 (gs (Gu q ((l).length) ·) (Ab 1 (Dy (wE ((l).getD q Sg.none) f ⟨⟨h0.1,h0.2.1⟩,Aoq (h0.2.2.2 _) (hok.1 _ ω).1⟩) λv5 hv5=>(gs (cG hv5 ·) (Ab 2 (Ew 16 ?_ ?_))))))
 exact Ab 13 (Iy (Ab 6 (gs (Cu (.int (max 0 (q:Int))) .none (Jl (.const (.int .i64 0)) (.tmp 19) #[3,3] κ 0 (q:Int) κ κ) ·) (Ab 8 (Bb)))))
 exact Ab 5 (gs (Cv ((q:Int)+1) ((q+1:Nat):Int) ·) (Ab 2 (mH [0,1,7,8] (hJ1 _ _ (by omega:l.length-(q+1)<l.length-q) ⟨q+1,rfl,ω,rfl⟩))))
 exact Ab 12 (Iy (Ab 6 (gs (Cu (.int (max 0 (-1))) .none (Jl (.const (.int .i64 0)) (.tmp 19) #[3,3] κ 0 (-1) κ κ) ·) (Ab 8 (Bb)))))
 exact Ab 10 (Bb)
noncomputable def Akn (f:Mi) (l:List Sg):Value:=Kp 32 [.one .i,.one .b,.one .i] [Kk f,Ga l]
theorem AbV (f:Mi) (l:List Sg) (h0:Gv/\Zh f/\Pp l):AF Tryz.prog 32 [Kk f,Ga l] (.lit (Hp [.one .i,.one .b,.one .i] (Akn f l))):=Bi (Adb f l h0)
theorem yI (f:Mi) (l:List Sg) (h0:Gv/\Zh f/\Pp l):∃r,Gc [.one .b,.one .i] r/\AF Tryz.prog 22 [Kk f,Ga l] r:=by
 refine Au func22 rfl ?_
 refine Ab 11 (Dy (AbV f l h0) λv1 hv1=>(gs (Ao hv1 ·) (Ab 14 (Ew 18 ?_ ?_))))
 exact Ab 9 (Bb)
 exact Ab 9 (Bb)
noncomputable def Gi (f:Mi) (l:List Sg):Value:=Kp 22 [.one .b,.one .i] [Kk f,Ga l]
theorem Kn (f:Mi) (l:List Sg) (h0:Gv/\Zh f/\Pp l):AF Tryz.prog 22 [Kk f,Ga l] (.lit (Hp [.one .b,.one .i] (Gi f l))):=Bi (yI f l h0)
def wZ (l:List Int) (o:Int) (d k:Nat):Prop:=Zp l d k/\-9223372036854775807<=Mb l o d k/\Mb l o d k<=9223372036854775807
def Aov (s:Sg) (d k:Nat):Bx:=⟨⟨aL s.x s.o d k,aL s.y s.o d k,aL s.z s.o d k⟩,⟨-Mb s.x s.o d k,-Mb s.y s.o d k,-Mb s.z s.o d k⟩⟩
theorem AbI (s:Sg) (d k:Nat) (h1:0<s.o/\s.o<=9223372036854775807) (hx:wZ s.x s.o d k) (hy:wZ s.y s.o d k) (hz:wZ s.z s.o d k):AF Tryz.prog 78 [Lt s,.int (d:Int),.int (k:Int)] (bxA (Aov s d k)):=by
 refine As func78 rfl λB D0 hA0=>?_
 exact Ae 16 (Ao (qM s) (Ae 4 (Sv 3 (Ae 14 (Cu (Aw s.x) .none (Ep 171 (.tmp 12) (.tmp 13) κ underlying171 1 sizeOf70 0 false isAgg70 [Aw s.x,Aw s.y,Aw s.z] 0 κ κ ω δ β δ (Aw s.x) κ) (Ae 12 (Ao (eA s.x s.o d k hx.1 h1 hx.2) (Ae 11 (Cz (.int .i64 1) (.int .i64 1) (Ae 17 (Cu (Aw s.y) .none (Ep 171 (.tmp 12) (.tmp 13) κ underlying171 1 sizeOf70 1 false isAgg70 [Aw s.x,Aw s.y,Aw s.z] 1 κ κ ω δ β δ (Aw s.y) κ) (Ae 12 (Ao (eA s.y s.o d k hy.1 h1 hy.2) (Ae 11 (Cz (.int .i64 2) (.int .i64 2) (Ae 17 (Cu (Aw s.z) .none (Ep 171 (.tmp 12) (.tmp 13) κ underlying171 1 sizeOf70 2 false isAgg70 [Aw s.x,Aw s.y,Aw s.z] 2 κ κ ω δ β δ (Aw s.z) κ) (Ae 12 (Ao (eA s.z s.o d k hz.1 h1 hz.2) (Ae 11 (Cz (.int .i64 3) (.int .i64 3) (Ae 36 (Ck)))))))))))))))))))))))
def Oe (v:V3):Prop:=(-2097152<=v.x/\v.x<=2097152)/\(-2097152<=v.y/\v.y<=2097152)/\(-2097152<=v.z/\v.z<=2097152)
instance (v:V3):Decidable (Oe v):=by unfold Oe;exact inferInstance
theorem Oe.val {v:V3} (h:Oe v):Gj 16777216 [v.x,v.y,v.z]=true:=by
 obtain⟨h1,h2,h3⟩:=h
 unfold Gj
 simp
 omega
theorem Ahy {u v:Int} (h1: -4194304<=u/\u<=4194304) (h2: -4194304<=v/\v<=4194304): -17592186044416<=u*v/\u*v<=17592186044416:=by
 have h:(u*v).natAbs<=4194304*4194304:=by rw[Int.natAbs_mul];exact Nat.mul_le_mul ω ω
 omega
def sgI (n:Int):Int:=if n<0 then -1 else if 0<n then 1 else 0
def iF (a b c:V3):Int:=sgI ((b.x-a.x)*(c.y-a.y)-(b.y-a.y)*(c.x-a.x))
theorem Acb (n:Int):AF Tryz.prog 108 [.int n] (.int (sgI n)):=by
 refine As func108 rfl λB D0 hA0=>?_
 refine Ae 14 (Gp 3 (n<0) (λhx1 hx1d=>?_) (λhx1 hx1d=>?_))
 ·
  exact Ae 9 (Fd (.int (-1)) (congrArg AV.int (by unfold sgI;rw[if_pos hx1d])))
 ·
  refine Ae 8 (Gp 6 ((0:Int)<n) (λhx2 hx2d=>?_) (λhx2 hx2d=>?_))
  ·
   exact Ae 9 (Fd (.int 1) (congrArg AV.int (by unfold sgI;rw[if_neg hx1d,if_pos hx2d])))
  ·
   exact Ae 10 (Fd (.int 0) (congrArg AV.int (by unfold sgI;rw[if_neg hx1d,if_neg hx2d])))
theorem wM (v:V3) (h:Oe v):AF Tryz.prog 107 [Bf v] (.bool true):=by
 have:=Ve v
 rwa [h.val] at this
theorem Acc (a b c:V3) (ha:Oe a) (hb:Oe b) (hc:Oe c):AF Tryz.prog 81 [Bf a,Bf b,Bf c] (.lit (.tuple #[.int .i64 (iF a b c),.int .i64 0])):=by
 obtain⟨a1,a2,a3⟩:=id ha
 obtain⟨b1,b2,b3⟩:=id hb
 obtain⟨c1,c2,c3⟩:=id hc
 have m1:=Ahy (u:=b.x-a.x) (v:=c.y-a.y) ⟨ω,ω⟩ ⟨ω,ω⟩
 have m2:=Ahy (u:=b.y-a.y) (v:=c.x-a.x) ⟨ω,ω⟩ ⟨ω,ω⟩
 refine As func81 rfl λB D0 hA0=>?_
 exact Ae 13 (Ao (wM a ha) (Ae 3 (Ao (wM b hb) (Ae 4 (Ao (wM c hc) (Ae 13 (Cv (b.x-a.x) (b.x-a.x) (Ae 4 (Cv (c.y-a.y) (c.y-a.y) (Cv ((b.x-a.x)*(c.y-a.y)) ((b.x-a.x)*(c.y-a.y)) (Ae 4 (Cv (b.y-a.y) (b.y-a.y) (Ae 4 (Cv (c.x-a.x) (c.x-a.x) (Cv ((b.y-a.y)*(c.x-a.x)) ((b.y-a.y)*(c.x-a.x)) (Cv ((b.x-a.x)*(c.y-a.y)-(b.y-a.y)*(c.x-a.x)) ((b.x-a.x)*(c.y-a.y)-(b.y-a.y)*(c.x-a.x)) (Ao (Acb ((b.x-a.x)*(c.y-a.y)-(b.y-a.y)*(c.x-a.x))) (Ae 5 (Fd (.lit (.tuple #[.int .i64 (sgI ((b.x-a.x)*(c.y-a.y)-(b.y-a.y)*(c.x-a.x))),.int .i64 0])) (by unfold iF;rfl))))))))))))))))))))
theorem eB (a b c:V3) (ha:Oe a) (hb:Oe b) (hc:Oe c):AF Tryz.prog 55 [Bf a,Bf b,Bf c] (.int (iF a b c)):=by
 refine As func55 rfl λB D0 hA0=>?_
 exact Ae 13 (Ao (Acc a b c ha hb hc) (Ae 14 (Ck)))
theorem Xk (a b c:V3) (v:Int) (h:Oe a/\Oe b/\Oe c/\iF a b c=v):AF Tryz.prog 55 [Bf a,Bf b,Bf c] (.int v):=by
 rw[<-h.2.2.2]
 exact eB a b c h.1 h.2.1 h.2.2.1
theorem Qn (v:V3) (h:Gj 1048576 [v.x,v.y,v.z]=true):AF Tryz.prog 37 [Bf v] (.bool true):=by
 have:=Xi v
 rwa [h] at this
def onB (a b p:V3):Bool:=decide (iF a b p=0)&&(decide (min a.x b.x<=p.x)&&(decide (p.x<=max a.x b.x)&&(decide (min a.y b.y<=p.y)&&decide (p.y<=max a.y b.y))))
theorem Amf (a b p:V3) (ha:Oe a) (hb:Oe b) (hp:Oe p):AF Tryz.prog 51 [Bf a,Bf b,Bf p] (.bool (onB a b p)):=by
 refine As func51 rfl λB D0 hA0=>?_
 refine Ae 13 (Ao (eB a b p ha hb hp) (Ae 2 (Gp 12 ((iF a b p)=0) (λhx1 hx1d=>?_) (λhx1 hx1d=>?_))))
 ·
  refine Ae 6 (Cu (.int (min a.x b.x)) .none (dE (.tmp 16) (.tmp 18) #[3,3] κ a.x b.x κ κ) (Ae 3 (Gp 22 (min a.x b.x<=p.x) (λhx2 hx2d=>?_) (λhx2 hx2d=>?_))))
  ·
   refine Ae 6 (Cu (.int (max a.x b.x)) .none (Jl (.tmp 26) (.tmp 28) #[3,3] κ a.x b.x κ κ) (Ae 3 (Gp 32 (p.x<=max a.x b.x) (λhx3 hx3d=>?_) (λhx3 hx3d=>?_))))
   ·
    refine Ae 6 (Cu (.int (min a.y b.y)) .none (dE (.tmp 36) (.tmp 38) #[3,3] κ a.y b.y κ κ) (Ae 3 (Gp 42 (min a.y b.y<=p.y) (λhx4 hx4d=>?_) (λhx4 hx4d=>?_))))
    ·
     exact Ae 6 (Cu (.int (max a.y b.y)) .none (Jl (.tmp 46) (.tmp 48) #[3,3] κ a.y b.y κ κ) (Ae 6 (Fd (.bool (decide (p.y<=max a.y b.y))) (congrArg AV.bool (by simp only[onB,hx1,hx2,hx3,hx4,Bool.true_and])))))
    ·
     exact Ae 13 (Fd (.bool false) (congrArg AV.bool (by simp only[onB,hx1,hx2,hx3,hx4,Bool.and_false,Bool.false_and])))
   ·
    exact Ae 23 (Fd (.bool false) (congrArg AV.bool (by simp only[onB,hx1,hx2,hx3,Bool.and_false,Bool.false_and])))
  ·
   exact Ae 33 (Fd (.bool false) (congrArg AV.bool (by simp only[onB,hx1,hx2,Bool.and_false,Bool.false_and])))
 ·
  exact Ae 43 (Fd (.bool false) (congrArg AV.bool (by simp only[onB,hx1,Bool.false_and])))
theorem Iw (a b p:V3) (v:Bool) (h:Oe a/\Oe b/\Oe p/\onB a b p=v):AF Tryz.prog 51 [Bf a,Bf b,Bf p] (.bool v):=by
 rw[<-h.2.2.2]
 exact Amf a b p h.1 h.2.1 h.2.2.1
def sqF:Nat->V3
 |0=>⟨-10,-10,0⟩
 |1=>⟨10,-10,0⟩
 |2=>⟨10,10,0⟩
 |3=>⟨-10,10,0⟩
 |_=>V3.zero
def Ut:Vs:=⟨4,sqF⟩
def Fc (h:Int):Mi:=⟨Ut,0,λ_=>⟨0,λ_=>V3.zero⟩,0,h⟩
theorem AbN:AF Tryz.prog 49 [Cd Ut,.fn 50 []] (.bool false):=by
 refine As func49 rfl λB D0 hA0=>?_
 refine Ae 9 (Al4 0 func80 (λ_ hD1=>?_))
 refine Ae 14 (Sv 4 (Ae 22 (Gu 0 4 (Ae 1 (mL 0 func50 (λ_ hD2=>?_))))))
 refine Ae 9 (Ao (Qn ⟨-10,-10,0⟩ δ) (Ae 5 (vrI (Ae 7 (Cz (.int .i64 1) (.int .i64 1) (Ae 25 (Gu 1 4 (Ae 1 (mL 1 func50 (λ_ hD3=>?_))))))))))
 refine Ae 9 (Ao (Qn ⟨10,-10,0⟩ δ) (Ae 5 (vrI (Ae 7 (Cz (.int .i64 2) (.int .i64 2) (Ae 25 (Gu 2 4 (Ae 1 (mL 2 func50 (λ_ hD4=>?_))))))))))
 refine Ae 9 (Ao (Qn ⟨10,10,0⟩ δ) (Ae 5 (vrI (Ae 7 (Cz (.int .i64 3) (.int .i64 3) (Ae 25 (Gu 3 4 (Ae 1 (mL 3 func50 (λ_ hD5=>?_))))))))))
 exact Ae 9 (Ao (Qn ⟨-10,10,0⟩ δ) (Ae 5 (vrI (Ae 7 (Cz (.int .i64 4) (.int .i64 4) (Ae 21 (vrI (Ae 5 (Ck)))))))))
theorem Aed:∃r,r=AV.bool true/\AF Tryz.prog 33 [Cd Ut] r:=by
 refine Au func33 rfl ?_
 exact Ab 23 (gs (Ao AbN ·) (Ab 14 (gs (Sv 4 ·) (Ab 18 (gs (Cp [(2,Cw (Cd Ut) 0,.none),(9,Cw (Cd Ut) 1,.none)] [0,3,4,5,6,23,24] ⟨Jn 0 4,Jn 1 4,trivial⟩ ·) (Ab 29 (gs (Sv 4 ·) (Ab 14 (gs (Cp [(2,Cw (Cd Ut) 1,.none),(9,Cw (Cd Ut) 2,.none)] [0,3,4,5,6,7,8,9,23,24] ⟨Jn 1 4,Jn 2 4,trivial⟩ ·) (Ab 26 (gs (Ao (Iw ⟨-10,-10,0⟩ ⟨10,-10,0⟩ ⟨10,10,0⟩ false δ) ·) (Ab 5 (gs (Ao (Iw ⟨10,-10,0⟩ ⟨10,10,0⟩ ⟨-10,-10,0⟩ false δ) ·) (Ab 36 (gs (Cp [(2,Cw (Cd Ut) 2,.none),(9,Cw (Cd Ut) 3,.none)] [0,3,4,5,6,7,8,9,23,24] ⟨Jn 2 4,Jn 3 4,trivial⟩ ·) (Ab 39 (cE func36 (Ab 10 (gs (Cp [(3,_,.none),(8,_,.none),(14,_,.none),(20,_,.none),(26,_,.none),(30,_,.none)] [8] ⟨Be (Iw ⟨-10,-10,0⟩ ⟨10,-10,0⟩ ⟨10,10,0⟩ false δ),Be (Iw ⟨-10,-10,0⟩ ⟨10,-10,0⟩ ⟨-10,10,0⟩ false δ),Be (Iw ⟨10,10,0⟩ ⟨-10,10,0⟩ ⟨-10,-10,0⟩ false δ),Be (Iw ⟨10,10,0⟩ ⟨-10,10,0⟩ ⟨10,-10,0⟩ false δ),Be (Xk ⟨-10,-10,0⟩ ⟨10,-10,0⟩ ⟨10,10,0⟩ 1 δ),Be (Xk ⟨-10,-10,0⟩ ⟨10,-10,0⟩ ⟨-10,10,0⟩ 1 δ),trivial⟩ ·) (Ab 2 (Iy (Ab 35 (gs (Cp [(2,Cw (Cd Ut) 3,.none),(9,Cw (Cd Ut) 0,.none)] [0,3,4,5,6,7,8,9,23,24] ⟨Jn 3 4,Jn 0 4,trivial⟩ ·) (Ab 38 (gs (Ao (Iw ⟨-10,-10,0⟩ ⟨10,-10,0⟩ ⟨-10,10,0⟩ false δ) ·) (Ab 5 (gs (Ao (Iw ⟨-10,10,0⟩ ⟨-10,-10,0⟩ ⟨10,-10,0⟩ false δ) ·) (Ab 60 (gs (Cp [(2,Cw (Cd Ut) 1,.none),(9,Cw (Cd Ut) 2,.none)] [0,3,4,5,6,23,24] ⟨Jn 1 4,Jn 2 4,trivial⟩ ·) (Ab 29 (gs (Sv 4 ·) (Ab 14 (gs (Cp [(2,Cw (Cd Ut) 2,.none),(9,Cw (Cd Ut) 3,.none)] [0,3,4,5,6,7,8,9,23,24] ⟨Jn 2 4,Jn 3 4,trivial⟩ ·) (Ab 26 (gs (Ao (Iw ⟨10,-10,0⟩ ⟨10,10,0⟩ ⟨-10,10,0⟩ false δ) ·) (Ab 5 (gs (Ao (Iw ⟨10,10,0⟩ ⟨-10,10,0⟩ ⟨10,-10,0⟩ false δ) ·) (Ab 36 (gs (Cp [(2,Cw (Cd Ut) 3,.none),(9,Cw (Cd Ut) 0,.none)] [0,3,4,5,6,7,8,9,23,24] ⟨Jn 3 4,Jn 0 4,trivial⟩ ·) (Ab 39 (cE func36 (Ab 10 (gs (Cp [(3,_,.none),(8,_,.none),(14,_,.none),(20,_,.none),(26,_,.none),(30,_,.none)] [8] ⟨Be (Iw ⟨10,-10,0⟩ ⟨10,10,0⟩ ⟨-10,10,0⟩ false δ),Be (Iw ⟨10,-10,0⟩ ⟨10,10,0⟩ ⟨-10,-10,0⟩ false δ),Be (Iw ⟨-10,10,0⟩ ⟨-10,-10,0⟩ ⟨10,-10,0⟩ false δ),Be (Iw ⟨-10,10,0⟩ ⟨-10,-10,0⟩ ⟨10,10,0⟩ false δ),Be (Xk ⟨10,-10,0⟩ ⟨10,10,0⟩ ⟨-10,10,0⟩ 1 δ),Be (Xk ⟨10,-10,0⟩ ⟨10,10,0⟩ ⟨-10,-10,0⟩ 1 δ),trivial⟩ ·) (Ab 2 (Iy (Ab 59 (gs (Cp [(2,Cw (Cd Ut) 2,.none),(9,Cw (Cd Ut) 3,.none)] [0,3,4,5,6,23,24] ⟨Jn 2 4,Jn 3 4,trivial⟩ ·) (Ab 29 (gs (Sv 4 ·) (Ab 14 (gs (Cp [(2,Cw (Cd Ut) 3,.none),(9,Cw (Cd Ut) 0,.none)] [0,3,4,5,6,7,8,9,23,24] ⟨Jn 3 4,Jn 0 4,trivial⟩ ·) (Ab 26 (gs (Ao (Iw ⟨10,10,0⟩ ⟨-10,10,0⟩ ⟨-10,-10,0⟩ false δ) ·) (Ab 5 (gs (Ao (Iw ⟨-10,10,0⟩ ⟨-10,-10,0⟩ ⟨10,10,0⟩ false δ) ·) (Ab 60 (gs (Cp [(2,Cw (Cd Ut) 3,.none),(9,Cw (Cd Ut) 0,.none)] [0,3,4,5,6,23,24] ⟨Jn 3 4,Jn 0 4,trivial⟩ ·) (Ab 29 (gs (Sv 4 ·) (Ab 38 (Nz (r:= .bool true) rfl)))))))))))))))))))))))))))))))))))))))))))))))))))))))))))))
theorem qS:AF Tryz.prog 33 [Cd Ut] (.bool true):=by
 obtain⟨_,rfl,h⟩:=Aed
 exact h
abbrev yZ (z:Int):V3:=⟨0,0,z⟩
theorem Xl (a b:V3) (z v:Int) (hz:0<=z/\z<=2097152) (h:Oe a/\Oe b/\iF a b (yZ 0)=v):AF Tryz.prog 55 [Bf a,Bf b,Bf (yZ z)] (.int v):=by
 rw[<-h.2.2]
 exact eB a b (yZ z) h.1 h.2.1 ⟨⟨by show (-2097152:Int)<=0;decide,by show (0:Int)<=2097152;decide⟩,⟨by show (-2097152:Int)<=0;decide,by show (0:Int)<=2097152;decide⟩,⟨by show -2097152<=z;omega,hz.2⟩⟩
theorem AbO (n:Int):AF Tryz.prog 57 [.int n] (.int (sgI n)):=by
 refine As func57 rfl λB D0 hA0=>?_
 refine Ae 14 (Gp 3 (n<0) (λhx1 hx1d=>?_) (λhx1 hx1d=>?_))
 ·
  exact Ae 9 (Fd (.int (-1)) (congrArg AV.int (by unfold sgI;rw[if_pos hx1d])))
 ·
  refine Ae 8 (Gp 6 ((0:Int)<n) (λhx2 hx2d=>?_) (λhx2 hx2d=>?_))
  ·
   exact Ae 9 (Fd (.int 1) (congrArg AV.int (by unfold sgI;rw[if_neg hx1d,if_pos hx2d])))
  ·
   exact Ae 10 (Fd (.int 0) (congrArg AV.int (by unfold sgI;rw[if_neg hx1d,if_neg hx2d])))
theorem Jp (n v:Int) (h:sgI n=v):AF Tryz.prog 57 [.int n] (.int v):=by
 rw[<-h]
 exact AbO n
abbrev bxZ (z w:Int):Bx:=⟨yZ z,yZ w⟩
theorem kD (z:Int) (hz:0<=z/\z<=1048576):AF Tryz.prog 37 [Bf (yZ z)] (.bool true):=by
 refine Qn (yZ z) ?_
 unfold Gj
 simp
 omega
theorem qT (h:Int) (hh:0<=h/\h<=1048576):∃r,r=AV.bool true/\AF Tryz.prog 23 [Kk (Fc h)] r:=by
 refine Au func23 rfl ?_
 refine Ab 11 (gs (Ao qS ·) (Ab 18 (Hn 36 ((1048576:Int)<h) (λhx1 hx1d=>?_) (λhx1 hx1d=>?_))))
 refine Ab 16 ?_
 exact absurd hh ω
 refine Ab 8 (Hn 42 (h<0) (λhx2 hx2d=>?_) (λhx2 hx2d=>?_))
 refine Ab 8 ?_
 exact absurd hh ω
 exact Ab 7 (gs (Kb 2 22 1 1 (λ_=>Cd Ut) ·) (Ab 14 (gs (Sv 0 ·) (Ab 22 (gs (Sv 0 ·) (Ab 18 (Nz (r:= .bool true) rfl)))))))
theorem Rk (h:Int) (hh:0<=h/\h<=1048576):AF Tryz.prog 23 [Kk (Fc h)] (.bool true):=by
 obtain⟨_,rfl,hA⟩:=qT h hh
 exact hA
theorem AbD (z:Int) (hz:0<=z/\z<=1048576):∃r,r=AV.int 1/\AF Tryz.prog 54 [.lit (.agg #[.int .i64 (-10),.int .i64 (-10),.int .i64 0]),.lit (.agg #[.int .i64 10,.int .i64 (-10),.int .i64 0]),.elt 3 (λxi=>[.lit (.int .i64 0),.lit (.int .i64 0),.lit (.int .i64 z)].getD (0+xi) .top)] r:=by
 refine Au func54 rfl ?_
 exact Ab 12 (gs (Ao (Xl ⟨-10,-10,0⟩ ⟨10,-10,0⟩ z 1 ⟨hz.1,ω⟩ δ) ·) (Ab 4 (Nz (r:= .int 1) rfl)))
theorem AeR (z:Int) (hz:0<=z/\z<=1048576):AF Tryz.prog 54 [.lit (.agg #[.int .i64 (-10),.int .i64 (-10),.int .i64 0]),.lit (.agg #[.int .i64 10,.int .i64 (-10),.int .i64 0]),.elt 3 (λxi=>[.lit (.int .i64 0),.lit (.int .i64 0),.lit (.int .i64 z)].getD (0+xi) .top)] (.int 1):=by
 obtain⟨_,rfl,hA⟩:=AbD z hz
 exact hA
theorem vM (z:Int) (_:0<=z/\z<=1048576):∃r,r=AV.int (-1)/\AF Tryz.prog 56 [.lit (.agg #[.int .i64 (-10),.int .i64 (-10),.int .i64 0]),.lit (.int .i64 0),.elt 3 (λxi=>[.lit (.int .i64 0),.lit (.int .i64 0),.lit (.int .i64 z)].getD (0+xi) .top)] r:=by
 refine Au func56 rfl ?_
 exact Ab 21 (gs (Ao (Jp (-10) (-1) δ) ·) (Ab 5 (Nz (r:= .int (-1)) rfl)))
theorem jP (z:Int) (hz:0<=z/\z<=1048576):AF Tryz.prog 56 [.lit (.agg #[.int .i64 (-10),.int .i64 (-10),.int .i64 0]),.lit (.int .i64 0),.elt 3 (λxi=>[.lit (.int .i64 0),.lit (.int .i64 0),.lit (.int .i64 z)].getD (0+xi) .top)] (.int (-1)):=by
 obtain⟨_,rfl,hA⟩:=vM z hz
 exact hA
theorem vN (z:Int) (_:0<=z/\z<=1048576):∃r,r=AV.int (-1)/\AF Tryz.prog 56 [.lit (.agg #[.int .i64 (-10),.int .i64 (-10),.int .i64 0]),.lit (.int .i64 1),.elt 3 (λxi=>[.lit (.int .i64 0),.lit (.int .i64 0),.lit (.int .i64 z)].getD (0+xi) .top)] r:=by
 refine Au func56 rfl ?_
 exact Ab 23 (gs (Ao (Jp (-10) (-1) δ) ·) (Ab 4 (Nz (r:= .int (-1)) rfl)))
theorem jQ (z:Int) (hz:0<=z/\z<=1048576):AF Tryz.prog 56 [.lit (.agg #[.int .i64 (-10),.int .i64 (-10),.int .i64 0]),.lit (.int .i64 1),.elt 3 (λxi=>[.lit (.int .i64 0),.lit (.int .i64 0),.lit (.int .i64 z)].getD (0+xi) .top)] (.int (-1)):=by
 obtain⟨_,rfl,hA⟩:=vN z hz
 exact hA
theorem AbE (z:Int) (hz:0<=z/\z<=1048576):∃r,r=AV.int 1/\AF Tryz.prog 54 [.lit (.agg #[.int .i64 10,.int .i64 (-10),.int .i64 0]),.lit (.agg #[.int .i64 10,.int .i64 10,.int .i64 0]),.elt 3 (λxi=>[.lit (.int .i64 0),.lit (.int .i64 0),.lit (.int .i64 z)].getD (0+xi) .top)] r:=by
 refine Au func54 rfl ?_
 exact Ab 12 (gs (Ao (Xl ⟨10,-10,0⟩ ⟨10,10,0⟩ z 1 ⟨hz.1,ω⟩ δ) ·) (Ab 4 (Nz (r:= .int 1) rfl)))
theorem AeS (z:Int) (hz:0<=z/\z<=1048576):AF Tryz.prog 54 [.lit (.agg #[.int .i64 10,.int .i64 (-10),.int .i64 0]),.lit (.agg #[.int .i64 10,.int .i64 10,.int .i64 0]),.elt 3 (λxi=>[.lit (.int .i64 0),.lit (.int .i64 0),.lit (.int .i64 z)].getD (0+xi) .top)] (.int 1):=by
 obtain⟨_,rfl,hA⟩:=AbE z hz
 exact hA
theorem vO (z:Int) (_:0<=z/\z<=1048576):∃r,r=AV.int 1/\AF Tryz.prog 56 [.lit (.agg #[.int .i64 10,.int .i64 (-10),.int .i64 0]),.lit (.int .i64 0),.elt 3 (λxi=>[.lit (.int .i64 0),.lit (.int .i64 0),.lit (.int .i64 z)].getD (0+xi) .top)] r:=by
 refine Au func56 rfl ?_
 exact Ab 21 (gs (Ao (Jp 10 1 δ) ·) (Ab 5 (Nz (r:= .int 1) rfl)))
theorem jR (z:Int) (hz:0<=z/\z<=1048576):AF Tryz.prog 56 [.lit (.agg #[.int .i64 10,.int .i64 (-10),.int .i64 0]),.lit (.int .i64 0),.elt 3 (λxi=>[.lit (.int .i64 0),.lit (.int .i64 0),.lit (.int .i64 z)].getD (0+xi) .top)] (.int 1):=by
 obtain⟨_,rfl,hA⟩:=vO z hz
 exact hA
theorem vP (z:Int) (_:0<=z/\z<=1048576):∃r,r=AV.int (-1)/\AF Tryz.prog 56 [.lit (.agg #[.int .i64 10,.int .i64 (-10),.int .i64 0]),.lit (.int .i64 1),.elt 3 (λxi=>[.lit (.int .i64 0),.lit (.int .i64 0),.lit (.int .i64 z)].getD (0+xi) .top)] r:=by
 refine Au func56 rfl ?_
 exact Ab 23 (gs (Ao (Jp (-10) (-1) δ) ·) (Ab 4 (Nz (r:= .int (-1)) rfl)))
theorem jS (z:Int) (hz:0<=z/\z<=1048576):AF Tryz.prog 56 [.lit (.agg #[.int .i64 10,.int .i64 (-10),.int .i64 0]),.lit (.int .i64 1),.elt 3 (λxi=>[.lit (.int .i64 0),.lit (.int .i64 0),.lit (.int .i64 z)].getD (0+xi) .top)] (.int (-1)):=by
 obtain⟨_,rfl,hA⟩:=vP z hz
 exact hA
theorem AbF (z:Int) (hz:0<=z/\z<=1048576):∃r,r=AV.int 1/\AF Tryz.prog 54 [.lit (.agg #[.int .i64 10,.int .i64 10,.int .i64 0]),.lit (.agg #[.int .i64 (-10),.int .i64 10,.int .i64 0]),.elt 3 (λxi=>[.lit (.int .i64 0),.lit (.int .i64 0),.lit (.int .i64 z)].getD (0+xi) .top)] r:=by
 refine Au func54 rfl ?_
 exact Ab 12 (gs (Ao (Xl ⟨10,10,0⟩ ⟨-10,10,0⟩ z 1 ⟨hz.1,ω⟩ δ) ·) (Ab 4 (Nz (r:= .int 1) rfl)))
theorem AeT (z:Int) (hz:0<=z/\z<=1048576):AF Tryz.prog 54 [.lit (.agg #[.int .i64 10,.int .i64 10,.int .i64 0]),.lit (.agg #[.int .i64 (-10),.int .i64 10,.int .i64 0]),.elt 3 (λxi=>[.lit (.int .i64 0),.lit (.int .i64 0),.lit (.int .i64 z)].getD (0+xi) .top)] (.int 1):=by
 obtain⟨_,rfl,hA⟩:=AbF z hz
 exact hA
theorem vQ (z:Int) (_:0<=z/\z<=1048576):∃r,r=AV.int 1/\AF Tryz.prog 56 [.lit (.agg #[.int .i64 10,.int .i64 10,.int .i64 0]),.lit (.int .i64 0),.elt 3 (λxi=>[.lit (.int .i64 0),.lit (.int .i64 0),.lit (.int .i64 z)].getD (0+xi) .top)] r:=by
 refine Au func56 rfl ?_
 exact Ab 21 (gs (Ao (Jp 10 1 δ) ·) (Ab 5 (Nz (r:= .int 1) rfl)))
theorem jT (z:Int) (hz:0<=z/\z<=1048576):AF Tryz.prog 56 [.lit (.agg #[.int .i64 10,.int .i64 10,.int .i64 0]),.lit (.int .i64 0),.elt 3 (λxi=>[.lit (.int .i64 0),.lit (.int .i64 0),.lit (.int .i64 z)].getD (0+xi) .top)] (.int 1):=by
 obtain⟨_,rfl,hA⟩:=vQ z hz
 exact hA
theorem vR (z:Int) (_:0<=z/\z<=1048576):∃r,r=AV.int 1/\AF Tryz.prog 56 [.lit (.agg #[.int .i64 10,.int .i64 10,.int .i64 0]),.lit (.int .i64 1),.elt 3 (λxi=>[.lit (.int .i64 0),.lit (.int .i64 0),.lit (.int .i64 z)].getD (0+xi) .top)] r:=by
 refine Au func56 rfl ?_
 exact Ab 23 (gs (Ao (Jp 10 1 δ) ·) (Ab 4 (Nz (r:= .int 1) rfl)))
theorem jU (z:Int) (hz:0<=z/\z<=1048576):AF Tryz.prog 56 [.lit (.agg #[.int .i64 10,.int .i64 10,.int .i64 0]),.lit (.int .i64 1),.elt 3 (λxi=>[.lit (.int .i64 0),.lit (.int .i64 0),.lit (.int .i64 z)].getD (0+xi) .top)] (.int 1):=by
 obtain⟨_,rfl,hA⟩:=vR z hz
 exact hA
theorem AbG (z:Int) (hz:0<=z/\z<=1048576):∃r,r=AV.int 1/\AF Tryz.prog 54 [.lit (.agg #[.int .i64 (-10),.int .i64 10,.int .i64 0]),.lit (.agg #[.int .i64 (-10),.int .i64 (-10),.int .i64 0]),.elt 3 (λxi=>[.lit (.int .i64 0),.lit (.int .i64 0),.lit (.int .i64 z)].getD (0+xi) .top)] r:=by
 refine Au func54 rfl ?_
 exact Ab 12 (gs (Ao (Xl ⟨-10,10,0⟩ ⟨-10,-10,0⟩ z 1 ⟨hz.1,ω⟩ δ) ·) (Ab 4 (Nz (r:= .int 1) rfl)))
theorem AeU (z:Int) (hz:0<=z/\z<=1048576):AF Tryz.prog 54 [.lit (.agg #[.int .i64 (-10),.int .i64 10,.int .i64 0]),.lit (.agg #[.int .i64 (-10),.int .i64 (-10),.int .i64 0]),.elt 3 (λxi=>[.lit (.int .i64 0),.lit (.int .i64 0),.lit (.int .i64 z)].getD (0+xi) .top)] (.int 1):=by
 obtain⟨_,rfl,hA⟩:=AbG z hz
 exact hA
theorem vS (z:Int) (_:0<=z/\z<=1048576):∃r,r=AV.int (-1)/\AF Tryz.prog 56 [.lit (.agg #[.int .i64 (-10),.int .i64 10,.int .i64 0]),.lit (.int .i64 0),.elt 3 (λxi=>[.lit (.int .i64 0),.lit (.int .i64 0),.lit (.int .i64 z)].getD (0+xi) .top)] r:=by
 refine Au func56 rfl ?_
 exact Ab 21 (gs (Ao (Jp (-10) (-1) δ) ·) (Ab 5 (Nz (r:= .int (-1)) rfl)))
theorem jV (z:Int) (hz:0<=z/\z<=1048576):AF Tryz.prog 56 [.lit (.agg #[.int .i64 (-10),.int .i64 10,.int .i64 0]),.lit (.int .i64 0),.elt 3 (λxi=>[.lit (.int .i64 0),.lit (.int .i64 0),.lit (.int .i64 z)].getD (0+xi) .top)] (.int (-1)):=by
 obtain⟨_,rfl,hA⟩:=vS z hz
 exact hA
theorem vT (z:Int) (_:0<=z/\z<=1048576):∃r,r=AV.int 1/\AF Tryz.prog 56 [.lit (.agg #[.int .i64 (-10),.int .i64 10,.int .i64 0]),.lit (.int .i64 1),.elt 3 (λxi=>[.lit (.int .i64 0),.lit (.int .i64 0),.lit (.int .i64 z)].getD (0+xi) .top)] r:=by
 refine Au func56 rfl ?_
 exact Ab 23 (gs (Ao (Jp 10 1 δ) ·) (Ab 4 (Nz (r:= .int 1) rfl)))
theorem jW (z:Int) (hz:0<=z/\z<=1048576):AF Tryz.prog 56 [.lit (.agg #[.int .i64 (-10),.int .i64 10,.int .i64 0]),.lit (.int .i64 1),.elt 3 (λxi=>[.lit (.int .i64 0),.lit (.int .i64 0),.lit (.int .i64 z)].getD (0+xi) .top)] (.int 1):=by
 obtain⟨_,rfl,hA⟩:=vT z hz
 exact hA
theorem AeV (z:Int) (hz:0<=z/\z<=1048576):∃r,r=AV.int 1/\AF Tryz.prog 35 [Cd Ut,Bf (yZ z)] r:=by
 refine Au func35 rfl ?_
 refine Ab 6 (gs (Xb 0 ·) (Ab 5 (cE func53 (Ab 17 (cE func34 (Ab 13 (Iy (Ab 3 (gs (vnm [4,5,6,7,16] ·) (uT func52 λsp3 sp3p sp3a sp3b=>(Ab 8 (gs (Sv 4 ·) (Ab 14 (gs (Gu 0 4 ·) (Ab 7 (gs (Cp [(6,Cw (Cd Ut) 1,.none)] [0,1,4,5,6,7,8] ⟨Jn 1 4,trivial⟩ ·) (Ab 14 (iH sp3p sp3a (Ab 10 (iG sp3b ?_))))))))))))))))))))
 refine Ab 6 (gs (cG (AeR z hz) ·) (Ab 4 (gs (Cp [(2,_,.none),(5,_,.none),(8,_,.none),(11,_,.none)] [6,7,10,11,12,13,14] ⟨Lk (jP z hz),Lk (jQ z hz),Lk (jR z hz),Lk (jS z hz),trivial⟩ ·) (Ab 59 (Pj (Ab 26 (gs (Gu 1 4 ·) (Ab 7 (gs (Cp [(6,Cw (Cd Ut) 2,.none)] [0,1,4,5,6,7,8] ⟨Jn 2 4,trivial⟩ ·) (Ab 14 (iH sp3p sp3a (Ab 10 (iG sp3b ?_)))))))))))))
 refine Ab 6 (gs (cG (AeS z hz) ·) (Ab 4 (gs (Cp [(2,_,.none),(5,_,.none),(8,_,.none),(11,_,.none)] [6,7,10,11,12,13,14] ⟨Lk (jR z hz),Lk (jS z hz),Lk (jT z hz),Lk (jU z hz),trivial⟩ ·) (Ab 47 (Pj (Ab 26 (gs (Gu 2 4 ·) (Ab 7 (gs (Cp [(6,Cw (Cd Ut) 3,.none)] [0,1,4,5,6,7,8] ⟨Jn 3 4,trivial⟩ ·) (Ab 14 (iH sp3p sp3a (Ab 10 (iG sp3b ?_)))))))))))))
 refine Ab 6 (gs (cG (AeT z hz) ·) (Ab 4 (gs (Cp [(2,_,.none),(5,_,.none),(8,_,.none),(11,_,.none)] [6,7,10,11,12,13,14] ⟨Lk (jT z hz),Lk (jU z hz),Lk (jV z hz),Lk (jW z hz),trivial⟩ ·) (Ab 59 (Pj (Ab 26 (gs (Gu 3 4 ·) (Ab 7 (gs (Cp [(6,Cw (Cd Ut) 0,.none)] [0,1,4,5,6,7,8] ⟨Jn 0 4,trivial⟩ ·) (Ab 14 (iH sp3p sp3a (Ab 10 (iG sp3b ?_)))))))))))))
 exact Ab 6 (gs (cG (AeU z hz) ·) (Ab 4 (gs (Cp [(2,_,.none),(5,_,.none),(8,_,.none),(11,_,.none)] [6,7,10,11,12,13,14] ⟨Lk (jV z hz),Lk (jW z hz),Lk (jP z hz),Lk (jQ z hz),trivial⟩ ·) (Ab 59 (Pj (Ab 23 (aN (Ab 17 (Iy (Ab 4 (Nz (r:= .int 1) rfl)))))))))))
theorem Ajg (z:Int) (hz:0<=z/\z<=1048576):AF Tryz.prog 35 [Cd Ut,Bf (yZ z)] (.int 1):=by
 obtain⟨_,rfl,hA⟩:=AeV z hz
 exact hA
theorem Afc (z:Int) (hz:0<=z/\z<=1048576):∃r,r=AV.int 1/\AF Tryz.prog 190 [Cd Ut,.elt 3 (λxi=>[.lit (.int .i64 0),.lit (.int .i64 0),.lit (.int .i64 z)].getD (0+xi) .top)] r:=by
 refine Au func190 rfl ?_
 exact Ab 9 (gs (Ao (Ajg z hz) ·) (Ab 4 (Nz (r:= .int 1) rfl)))
theorem Ajo (z:Int) (hz:0<=z/\z<=1048576):AF Tryz.prog 190 [Cd Ut,.elt 3 (λxi=>[.lit (.int .i64 0),.lit (.int .i64 0),.lit (.int .i64 z)].getD (0+xi) .top)] (.int 1):=by
 obtain⟨_,rfl,hA⟩:=Afc z hz
 exact hA
theorem AbW (h z:Int):∃r,r=AV.bool false/\AF Tryz.prog 201 [hsA (Fc h),.fn 202 [.elt 1 (λxi=>[.fn 190 [.elt 3 (λxi=>[.lit (.int .i64 0),.lit (.int .i64 0),.lit (.int .i64 z)].getD (0+xi) .top)]].getD (0+xi) .top)]] r:=by
 refine Au func201 rfl ?_
 exact Ab 9 (cE func234 (Ab 14 (gs (Sv 0 ·) (Ab 18 (Iy (Ab 5 (Nz (r:= .bool false) rfl)))))))
theorem Afb (h z:Int):AF Tryz.prog 201 [hsA (Fc h),.fn 202 [.elt 1 (λxi=>[.fn 190 [.elt 3 (λxi=>[.lit (.int .i64 0),.lit (.int .i64 0),.lit (.int .i64 z)].getD (0+xi) .top)]].getD (0+xi) .top)]] (.bool false):=by
 obtain⟨_,rfl,hA⟩:=AbW h z
 exact hA
theorem Afd (h z:Int) (hz:0<=z/\z<=h/\h<=1048576):∃r,r=AV.bool true/\AF Tryz.prog 152 [Kk (Fc h),.fn 190 [.elt 3 (λxi=>[.lit (.int .i64 0),.lit (.int .i64 0),.lit (.int .i64 z)].getD (0+xi) .top)]] r:=by
 refine Au func152 rfl ?_
 exact Ab 7 (gs (Xb 1 ·) (Ab 5 (gs (cG (Ajo z ⟨hz.1,ω⟩) ·) (Ab 5 (gs (Ao (Afb h z) ·) (Ab 6 (Nz (r:= .bool true) rfl)))))))
theorem Ajp (h z:Int) (hz:0<=z/\z<=h/\h<=1048576):AF Tryz.prog 152 [Kk (Fc h),.fn 190 [.elt 3 (λxi=>[.lit (.int .i64 0),.lit (.int .i64 0),.lit (.int .i64 z)].getD (0+xi) .top)]] (.bool true):=by
 obtain⟨_,rfl,hA⟩:=Afd h z hz
 exact hA
theorem mT (h z:Int) (hz:0<=z/\z<=h/\h<=1048576):∃r,r=AV.bool true/\AF Tryz.prog 138 [Kk (Fc h),Bf (yZ z)] r:=by
 refine Au func138 rfl ?_
 refine Ab 7 (gs (Xb 1 ·) (Ab 8 (Hn 10 ((0:Int)<=z) (λhx1 hx1d=>?_) (λhx1 hx1d=>?_))))
 refine Ab 7 (Hn 17 (z<=h) (λhx2 hx2d=>?_) (λhx2 hx2d=>?_))
 exact Ab 2 (gs (Ao (Ajp h z hz) ·) (Ab 5 (Nz (r:= .bool true) rfl)))
 refine Ab 8 ?_
 exact absurd hz ω
 refine Ab 15 ?_
 exact absurd hz ω
theorem aQ (h z:Int) (hz:0<=z/\z<=h/\h<=1048576):AF Tryz.prog 138 [Kk (Fc h),Bf (yZ z)] (.bool true):=by
 obtain⟨_,rfl,hA⟩:=mT h z hz
 exact hA
theorem wD (h z:Int) (hz:0<=z/\z<=h/\h<=1048576):∃r,r=AV.lit (.tuple #[.bool true,.int .i64 0])/\AF Tryz.prog 106 [Kk (Fc h),Bf (yZ z),Bf (yZ z)] r:=by
 refine Au func106 rfl ?_
 exact Ab 13 (gs (Ao (Rk h ⟨ω,hz.2.2⟩) ·) (Ab 3 (gs (Ao (kD z ⟨hz.1,ω⟩) ·) (Ab 4 (gs (Ao (kD z ⟨hz.1,ω⟩) ·) (Ab 12 (gs (Ao (aQ h z hz) ·) (Ab 4 (gs (Ao (aQ h z hz) ·) (Ab 33 (Nz (r:= .lit (.tuple #[.bool true,.int .i64 0])) rfl)))))))))))
theorem Jq (h z:Int) (hz:0<=z/\z<=h/\h<=1048576):AF Tryz.prog 106 [Kk (Fc h),Bf (yZ z),Bf (yZ z)] (.lit (.tuple #[.bool true,.int .i64 0])):=by
 obtain⟨_,rfl,hA⟩:=wD h z hz
 exact hA
theorem AbR (h z w:Int) (hz:0<=z/\z<=w/\w<=h/\h<=1048576):∃r,r=AV.bool true/\AF Tryz.prog 79 [bxA (bxZ z w),Kk (Fc h)] r:=by
 refine Au func79 rfl ?_
 refine Ab 17 (Hn 17 (z<0) (λhx1 hx1d=>?_) (λhx1 hx1d=>?_))
 refine Ab 17 ?_
 exact absurd hz ω
 refine Ab 9 (Hn 24 (h<w) (λhx2 hx2d=>?_) (λhx2 hx2d=>?_))
 refine Ab 8 ?_
 exact absurd hz ω
 exact Ab 13 (gs (Sv 0 ·) (Ab 15 (gs (Ao (Wd (bxZ z w)) ·) (Ab 11 (gs (Sv 4 ·) (Ab 18 (gs (Cp [(9,_,.none)] [3,7,9,39] ⟨Be (Jq h z ⟨hz.1,ω⟩),trivial⟩ ·) (Ab 34 (gs (Cp [(9,_,.none)] [3,7,9,39] ⟨Be (Jq h z ⟨hz.1,ω⟩),trivial⟩ ·) (Ab 34 (gs (Cp [(9,_,.none)] [3,7,9,39] ⟨Be (Jq h z ⟨hz.1,ω⟩),trivial⟩ ·) (Ab 34 (gs (Cp [(9,_,.none)] [3,7,9,39] ⟨Be (Jq h z ⟨hz.1,ω⟩),trivial⟩ ·) (Ab 34 (Nz (r:= .bool true) rfl)))))))))))))))
theorem Afa (h z w:Int) (hz:0<=z/\z<=w/\w<=h/\h<=1048576):AF Tryz.prog 79 [bxA (bxZ z w),Kk (Fc h)] (.bool true):=by
 obtain⟨_,rfl,hA⟩:=AbR h z w hz
 exact hA
theorem AbQ (h z w:Int) (hz:0<=z/\z<=h/\h<w):∃r,r=AV.bool false/\AF Tryz.prog 79 [bxA (bxZ z w),Kk (Fc h)] r:=by
 refine Au func79 rfl ?_
 refine Ab 17 (Hn 17 (z<0) (λhx1 hx1d=>?_) (λhx1 hx1d=>?_))
 exact Ab 17 (Nz (r:= .bool false) rfl)
 refine Ab 9 (Hn 24 (h<w) (λhx2 hx2d=>?_) (λhx2 hx2d=>?_))
 exact Ab 8 (Nz (r:= .bool false) rfl)
 refine Ab 13 (gs (Sv 0 ·) (Ab 15 (gs (Ao (Wd (bxZ z w)) ·) (Ab 11 (gs (Sv 4 ·) (Ab 18 (gs (Cp [(9,_,.none)] [3,7,9,39] ⟨Be (Jq h z ⟨hz.1,ω⟩),trivial⟩ ·) (Ab 34 (gs (Cp [(9,_,.none)] [3,7,9,39] ⟨Be (Jq h z ⟨hz.1,ω⟩),trivial⟩ ·) (Ab 34 (gs (Cp [(9,_,.none)] [3,7,9,39] ⟨Be (Jq h z ⟨hz.1,ω⟩),trivial⟩ ·) (Ab 34 (gs (Cp [(9,_,.none)] [3,7,9,39] ⟨Be (Jq h z ⟨hz.1,ω⟩),trivial⟩ ·) (Ab 34 ?_))))))))))))))
 exact absurd hz ω
theorem Te (h z w:Int) (hz:0<=z/\z<=h/\h<w):AF Tryz.prog 79 [bxA (bxZ z w),Kk (Fc h)] (.bool false):=by
 obtain⟨_,rfl,hA⟩:=AbQ h z w hz
 exact hA
def CB (s:Sg) (d k:Nat) (z w:Int):Prop:=(0<s.o/\s.o<=9223372036854775807)/\wZ s.x s.o d k/\wZ s.y s.o d k/\wZ s.z s.o d k/\Aov s d k=bxZ z w
theorem Vc (s:Sg) (d k:Nat) (z w:Int) (h:CB s d k z w):AF Tryz.prog 78 [Lt s,.int (d:Int),.int (k:Int)] (bxA (bxZ z w)):=by
 rw[<-h.2.2.2.2]
 exact AbI s d k h.1 h.2.1 h.2.2.1 h.2.2.2.1
theorem Aoz (s:Sg) (d k:Nat) (z w h:Int) (m:Nat) (hb:CB s d k z w) (hz:0<=z/\z<=w/\w<=h/\h<=1048576) (_:d<=8):∃r,r=AV.bool true/\AF Tryz.prog 77 [.int (d:Int),.int (k:Int),Hr s,Qh (Fc h),Vj s (Fc h) (m+1)] r:=by
 refine Au func77 rfl ?_
 exact Ab 6 (gs (Cp [(3,_,.none),(5,_,.none)] [7] ⟨Be (Vc s d k z w hb),Be (Afa h z w hz),trivial⟩ ·) (Ab 2 (Nz (r:= .bool true) rfl)))
theorem Acw (s:Sg) (d k:Nat) (z w h:Int) (m:Nat) (hb:CB s d k z w) (hz:0<=z/\z<=w/\w<=h/\h<=1048576) (hd:d<=8):AF Tryz.prog 77 [.int (d:Int),.int (k:Int),Hr s,Qh (Fc h),Vj s (Fc h) (m+1)] (.bool true):=by
 obtain⟨_,rfl,hA⟩:=Aoz s d k z w h m hb hz hd
 exact hA
theorem Aox (s:Sg) (k:Nat) (z w h:Int) (m:Nat) (hb:CB s 8 k z w) (hz:0<=z/\z<=h/\h<w):∃r,r=AV.bool false/\AF Tryz.prog 77 [.int ((8:Nat):Int),.int (k:Int),Hr s,Qh (Fc h),Vj s (Fc h) (m+1)] r:=by
 refine Au func77 rfl ?_
 exact Ab 6 (gs (Cp [(3,_,.none),(5,_,.none)] [7] ⟨Be (Vc s 8 k z w hb),Be (Te h z w hz),trivial⟩ ·) (Ab 2 (Nz (r:= .bool false) rfl)))
theorem ApA (s:Sg) (k:Nat) (z w h:Int) (m:Nat) (hb:CB s 8 k z w) (hz:0<=z/\z<=h/\h<w):AF Tryz.prog 77 [.int ((8:Nat):Int),.int (k:Int),Hr s,Qh (Fc h),Vj s (Fc h) (m+1)] (.bool false):=by
 obtain⟨_,rfl,hA⟩:=Aox s k z w h m hb hz
 exact hA
theorem Aoy (s:Sg) (d k:Nat) (z w h:Int) (m:Nat) (hb:CB s d k z w) (hz:0<=z/\z<=h/\h<w) (hd:d<8/\k<256) (hl:AF Tryz.prog 77 [.int ((d+1):Int),.int ((2*k):Int),Hr s,Qh (Fc h),Vj s (Fc h) m] (.bool false)):∃r,r=AV.bool false/\AF Tryz.prog 77 [.int (d:Int),.int (k:Int),Hr s,Qh (Fc h),Vj s (Fc h) (m+1)] r:=by
 refine Au func77 rfl ?_
 refine Ab 6 (vsp ((d:Int)<8) (λhx1 hx1d=>?_) (λhx1 hx1d=>?_))
 exact gs (Cp [(3,_,.none),(5,_,.none),(8,.bool true,.none),(12,.int ((d+1:Nat):Int),.none),(14,.int ((2*k:Nat):Int),.none),(15,_,.none)] [7] ⟨Be (Vc s d k z w hb),Be (Te h z w hz),vK hx1,En (.int .i64 (IntKind.wrap .i64 ((d:Int)+1))) η,En (.int .i64 (IntKind.wrap .i64 (2*(k:Int)))) η,Lk hl,trivial⟩ ·) (Ab 2 (Nz (r:= .bool false) rfl))
 exact gs (Cp [(3,_,.none),(5,_,.none),(8,.bool false,.none)] [7] ⟨Be (Vc s d k z w hb),Be (Te h z w hz),vK hx1,trivial⟩ ·) (Ab 2 (Nz (r:= .bool false) rfl))
theorem AjU (s:Sg) (d k:Nat) (z w h:Int) (m:Nat) (hb:CB s d k z w) (hz:0<=z/\z<=h/\h<w) (hd:d<8/\k<256) (hl:AF Tryz.prog 77 [.int ((d+1):Int),.int ((2*k):Int),Hr s,Qh (Fc h),Vj s (Fc h) m] (.bool false)):AF Tryz.prog 77 [.int (d:Int),.int (k:Int),Hr s,Qh (Fc h),Vj s (Fc h) (m+1)] (.bool false):=by
 obtain⟨_,rfl,hA⟩:=Aoy s d k z w h m hb hz hd hl
 exact hA
theorem Am0 (s:Sg) (d k:Nat) (z w h:Int) (m:Nat) (hb:CB s d k z w) (hz:0<=z/\z<=h/\h<w) (hd:d<8/\k<256) (hl:AF Tryz.prog 77 [.int ((d+1):Int),.int ((2*k):Int),Hr s,Qh (Fc h),Vj s (Fc h) m] (.bool true)) (hr:AF Tryz.prog 77 [.int ((d+1):Int),.int ((2*k+1):Int),Hr s,Qh (Fc h),Vj s (Fc h) m] (.bool false)):∃r,r=AV.bool false/\AF Tryz.prog 77 [.int (d:Int),.int (k:Int),Hr s,Qh (Fc h),Vj s (Fc h) (m+1)] r:=by
 refine Au func77 rfl ?_
 refine Ab 6 (vsp ((d:Int)<8) (λhx1 hx1d=>?_) (λhx1 hx1d=>?_))
 exact gs (Cp [(3,_,.none),(5,_,.none),(8,.bool true,.none),(12,.int ((d+1:Nat):Int),.none),(14,.int ((2*k:Nat):Int),.none),(15,_,.none),(20,.int ((d+1:Nat):Int),.none),(22,.int ((2*k:Nat):Int),.none),(23,.int ((2*k+1:Nat):Int),.none),(24,_,.none)] [7] ⟨Be (Vc s d k z w hb),Be (Te h z w hz),vK hx1,En (.int .i64 (IntKind.wrap .i64 ((d:Int)+1))) η,En (.int .i64 (IntKind.wrap .i64 (2*(k:Int)))) η,Lk hl,En (.int .i64 (IntKind.wrap .i64 ((d:Int)+1))) η,En (.int .i64 (IntKind.wrap .i64 (2*(k:Int)))) η,En (.int .i64 (IntKind.wrap .i64 (((2*k:Nat):Int)+1))) η,Lk hr,trivial⟩ ·) (Ab 2 (Nz (r:= .bool false) rfl))
 exact gs (Cp [(3,_,.none),(5,_,.none),(8,.bool false,.none)] [7] ⟨Be (Vc s d k z w hb),Be (Te h z w hz),vK hx1,trivial⟩ ·) (Ab 2 (Nz (r:= .bool false) rfl))
theorem AaD (s:Sg) (d k:Nat) (z w h:Int) (m:Nat) (hb:CB s d k z w) (hz:0<=z/\z<=h/\h<w) (hd:d<8/\k<256) (hl:AF Tryz.prog 77 [.int ((d+1):Int),.int ((2*k):Int),Hr s,Qh (Fc h),Vj s (Fc h) m] (.bool true)) (hr:AF Tryz.prog 77 [.int ((d+1):Int),.int ((2*k+1):Int),Hr s,Qh (Fc h),Vj s (Fc h) m] (.bool false)):AF Tryz.prog 77 [.int (d:Int),.int (k:Int),Hr s,Qh (Fc h),Vj s (Fc h) (m+1)] (.bool false):=by
 obtain⟨_,rfl,hA⟩:=Am0 s d k z w h m hb hz hd hl hr
 exact hA
theorem AjW (s:Sg) (h:Int) (hc:AF Tryz.prog 77 [.int 0,.int 0,Hr s,Qh (Fc h),Vj s (Fc h) 9] (.bool true)):∃r,r=AV.bool true/\AF Tryz.prog 48 [Kk (Fc h),Lt s] r:=by
 refine Au func48 rfl ?_
 exact Ab 12 (gs (Xb 0 ·) (gs (Xb 1 ·) (Ab 6 (gs (AnJ 2 77 (Hr s) (Qh (Fc h)) 10 ·) (Ab 3 (gs (cG hc ·) (Ab 4 (Nz (r:= .bool true) rfl))))))))
theorem jY (s:Sg) (h:Int) (hc:AF Tryz.prog 77 [.int 0,.int 0,Hr s,Qh (Fc h),Vj s (Fc h) 9] (.bool true)):AF Tryz.prog 48 [Kk (Fc h),Lt s] (.bool true):=by
 obtain⟨_,rfl,hA⟩:=AjW s h hc
 exact hA
theorem AjV (s:Sg) (h:Int) (hc:AF Tryz.prog 77 [.int 0,.int 0,Hr s,Qh (Fc h),Vj s (Fc h) 9] (.bool false)):∃r,r=AV.bool false/\AF Tryz.prog 48 [Kk (Fc h),Lt s] r:=by
 refine Au func48 rfl ?_
 exact Ab 12 (gs (Xb 0 ·) (gs (Xb 1 ·) (Ab 6 (gs (AnJ 2 77 (Hr s) (Qh (Fc h)) 10 ·) (Ab 3 (gs (cG hc ·) (Ab 4 (Nz (r:= .bool false) rfl))))))))
theorem AbK (s:Sg) (h:Int) (hc:AF Tryz.prog 77 [.int 0,.int 0,Hr s,Qh (Fc h),Vj s (Fc h) 9] (.bool false)):AF Tryz.prog 48 [Kk (Fc h),Lt s] (.bool false):=by
 obtain⟨_,rfl,hA⟩:=AjV s h hc
 exact hA
def Jw:Sg:=⟨0,1000,1,[0],[0],[0,0,0,5000,-7500,3000]⟩
def sgH:Sg:=⟨1000,2000,1,[0],[0],[500]⟩
def upL:List Sg:=[Jw,sgH]
theorem Je {l:List Int} (h:l.all (λc=>decide (Cj c))=true):∀i,Cj (l.getD i 0):=by
 intro i
 rw[Γ]
 rcases Nat.lt_or_ge i l.length with g|g
 rw[List.getElem?_eq_getElem g]
 exact of_decide_eq_true (List.all_eq_true.1 h _ (List.getElem_mem g))
 rw[List.getElem?_eq_none g]
 exact Jm
def axB (l:List Int) (o:Int) (d k:Nat) (z w:Int):Bool:=decide (0<l.length/\l.length<=6)&&(l.all (λc=>decide (Cj c))&&(decide (d<=8/\k<2^d)&&(decide (-9223372036854775807<=w/\w<=9223372036854775807)&&(decide (aL l o d k=z)&&decide (Mb l o d k= -w)))))
theorem Ro {l:List Int} {o:Int} {d k:Nat} {z w:Int} (h:axB l o d k z w=true):wZ l o d k/\aL l o d k=z/\-Mb l o d k=w:=by
 simp only[axB,Bool.and_eq_true,decide_eq_true_eq] at h
 obtain⟨h1,h2,h3,h4,h5,h6⟩:=h
 refine⟨⟨⟨h1.1,h1.2,Je h2,h3.1,h3.2⟩,?_,?_⟩,h5,?_⟩<;>rw[h6]<;>omega
theorem Nl (s:Sg) (d k:Nat) (z w:Int) (h:(decide (0<s.o/\s.o<=9223372036854775807)&&(axB s.x s.o d k 0 0&&(axB s.y s.o d k 0 0&&axB s.z s.o d k z w)))=true):CB s d k z w:=by
 simp only[Bool.and_eq_true,decide_eq_true_eq] at h
 obtain⟨h1,h2,h3,h4⟩:=h
 refine⟨h1,(Ro h2).1,(Ro h3).1,(Ro h4).1,?_⟩
 show Bx.mk ⟨_,_,_⟩ ⟨_,_,_⟩=Bx.mk ⟨_,_,_⟩ ⟨_,_,_⟩
 rw[(Ro h2).2.1,(Ro h2).2.2,(Ro h3).2.1,(Ro h3).2.2,(Ro h4).2.1,(Ro h4).2.2]
theorem AcB:AF Tryz.prog 77 [.int ((0:Nat):Int),.int ((0:Nat):Int),Hr Jw,Qh (Fc 500),Vj Jw (Fc 500) 9] (.bool true):=Acw Jw 0 0 0 500 500 8 (Nl Jw 0 0 0 500 (by decide+kernel)) δ δ
theorem Ac5:AF Tryz.prog 77 [.int ((1:Nat):Int),.int ((0:Nat):Int),Hr Jw,Qh (Fc 499),Vj Jw (Fc 499) 8] (.bool true):=Acw Jw 1 0 0 250 499 7 (Nl Jw 1 0 0 250 (by decide+kernel)) δ δ
theorem Ac7:AF Tryz.prog 77 [.int ((2:Nat):Int),.int ((2:Nat):Int),Hr Jw,Qh (Fc 499),Vj Jw (Fc 499) 7] (.bool true):=Acw Jw 2 2 250 449 499 6 (Nl Jw 2 2 250 449 (by decide+kernel)) δ δ
theorem Ac9:AF Tryz.prog 77 [.int ((3:Nat):Int),.int ((6:Nat):Int),Hr Jw,Qh (Fc 499),Vj Jw (Fc 499) 6] (.bool true):=Acw Jw 3 6 448 492 499 5 (Nl Jw 3 6 448 492 (by decide+kernel)) δ δ
theorem xN:AF Tryz.prog 77 [.int ((4:Nat):Int),.int ((14:Nat):Int),Hr Jw,Qh (Fc 499),Vj Jw (Fc 499) 5] (.bool true):=Acw Jw 4 14 491 499 499 4 (Nl Jw 4 14 491 499 (by decide+kernel)) δ δ
theorem rW:AF Tryz.prog 77 [.int ((8:Nat):Int),.int ((240:Nat):Int),Hr Jw,Qh (Fc 499),Vj Jw (Fc 499) 1] (.bool false):=ApA Jw 240 498 500 499 0 (Nl Jw 8 240 498 500 (by decide+kernel)) δ
theorem rV:AF Tryz.prog 77 [.int ((7:Nat):Int),.int ((120:Nat):Int),Hr Jw,Qh (Fc 499),Vj Jw (Fc 499) 2] (.bool false):=AjU Jw 7 120 498 500 499 1 (Nl Jw 7 120 498 500 (by decide+kernel)) δ δ rW
theorem xQ:AF Tryz.prog 77 [.int ((6:Nat):Int),.int ((60:Nat):Int),Hr Jw,Qh (Fc 499),Vj Jw (Fc 499) 3] (.bool false):=AjU Jw 6 60 498 500 499 2 (Nl Jw 6 60 498 500 (by decide+kernel)) δ δ rV
theorem xP:AF Tryz.prog 77 [.int ((5:Nat):Int),.int ((30:Nat):Int),Hr Jw,Qh (Fc 499),Vj Jw (Fc 499) 4] (.bool false):=AjU Jw 5 30 498 500 499 3 (Nl Jw 5 30 498 500 (by decide+kernel)) δ δ xQ
theorem xO:AF Tryz.prog 77 [.int ((4:Nat):Int),.int ((15:Nat):Int),Hr Jw,Qh (Fc 499),Vj Jw (Fc 499) 5] (.bool false):=AjU Jw 4 15 498 500 499 4 (Nl Jw 4 15 498 500 (by decide+kernel)) δ δ xP
theorem AcA:AF Tryz.prog 77 [.int ((3:Nat):Int),.int ((7:Nat):Int),Hr Jw,Qh (Fc 499),Vj Jw (Fc 499) 6] (.bool false):=AaD Jw 3 7 491 500 499 5 (Nl Jw 3 7 491 500 (by decide+kernel)) δ δ xN xO
theorem Ac8:AF Tryz.prog 77 [.int ((2:Nat):Int),.int ((3:Nat):Int),Hr Jw,Qh (Fc 499),Vj Jw (Fc 499) 7] (.bool false):=AaD Jw 2 3 448 500 499 6 (Nl Jw 2 3 448 500 (by decide+kernel)) δ δ Ac9 AcA
theorem Ac6:AF Tryz.prog 77 [.int ((1:Nat):Int),.int ((1:Nat):Int),Hr Jw,Qh (Fc 499),Vj Jw (Fc 499) 8] (.bool false):=AaD Jw 1 1 250 500 499 7 (Nl Jw 1 1 250 500 (by decide+kernel)) δ δ Ac7 Ac8
theorem Ac4:AF Tryz.prog 77 [.int ((0:Nat):Int),.int ((0:Nat):Int),Hr Jw,Qh (Fc 499),Vj Jw (Fc 499) 9] (.bool false):=AaD Jw 0 0 0 500 499 8 (Nl Jw 0 0 0 500 (by decide+kernel)) δ δ Ac5 Ac6
theorem cxh:AF Tryz.prog 77 [.int ((0:Nat):Int),.int ((0:Nat):Int),Hr sgH,Qh (Fc 500),Vj sgH (Fc 500) 9] (.bool true):=Acw sgH 0 0 500 500 500 8 (Nl sgH 0 0 500 500 (by decide+kernel)) δ δ
theorem Amz:AF Tryz.prog 48 [Kk (Fc 500),Lt Jw] (.bool true):=jY Jw 500 AcB
theorem Amx:AF Tryz.prog 48 [Kk (Fc 500),Lt sgH] (.bool true):=jY sgH 500 cxh
theorem Amy:AF Tryz.prog 48 [Kk (Fc 499),Lt Jw] (.bool false):=AbK Jw 499 Ac4
theorem AnA:Zo Jw:=⟨δ,δ,δ,Je δ,Je δ,Je δ⟩
theorem An9:Zo sgH:=⟨δ,δ,δ,Je δ,Je δ,Je δ⟩
theorem AnG:Pp upL:=⟨δ,λi=>by
 match i with
 |0=>exact AnA
 |1=>exact An9
 |i+2=>exact show Zo Sg.none from⟨δ,δ,δ,Je (l:=[]) rfl,Je (l:=[]) rfl,Je (l:=[]) rfl⟩⟩
theorem AnH:Wh upL:=by decide+kernel
theorem Aft:AF Tryz.prog 45 [Ga upL] (.bool true):=by
 have h:=Xn upL AnG
 rwa [show bP (Wh upL)=true by unfold bP;exact @decide_eq_true _ (Classical.propDecidable _) AnH] at h
theorem AcN:∃r,r=AV.lit (.tuple #[.int .i64 0,.bool false,.int .i64 0])/\AF Tryz.prog 32 [Kk (Fc 500),Ga upL] r:=by
 refine Au func32 rfl ?_
 exact Ab 12 (gs (Ao (Rk 500 δ) ·) (Ab 3 (gs (Ao Aft ·) (Ab 7 (gs (Xb 0 ·) (Ab 4 (cE func46 (Ab 14 (gs (Sv 2 ·) (Ab 22 (gs (Gu 0 2 ·) (Ab 1 (uS func47 (Ab 10 (gs (Ao Amz ·) (Ab 5 (Iy (Ab 33 (gs (Gu 1 2 ·) (Ab 1 (uS func47 (Ab 10 (gs (Ao Amx ·) (Ab 5 (Iy (Ab 29 (Iy (Ab 6 (gs (Cu (.int (max 0 (-1))) .none (Jl (.const (.int .i64 0)) (.tmp 19) #[3,3] κ 0 (-1) κ κ) ·) (Ab 8 (Nz (r:= .lit (.tuple #[.int .i64 0,.bool false,.int .i64 0])) rfl)))))))))))))))))))))))))))))))
theorem AgF:AF Tryz.prog 32 [Kk (Fc 500),Ga upL] (.lit (.tuple #[.int .i64 0,.bool false,.int .i64 0])):=by
 obtain⟨_,rfl,hA⟩:=AcN
 exact hA
theorem sW:∃r,r=AV.lit (.tuple #[.bool true,.int .i64 0])/\AF Tryz.prog 22 [Kk (Fc 500),Ga upL] r:=by
 refine Au func22 rfl ?_
 exact Ab 11 (gs (Ao AgF ·) (Ab 23 (Nz (r:= .lit (.tuple #[.bool true,.int .i64 0])) rfl)))
theorem yK:AF Tryz.prog 22 [Kk (Fc 500),Ga upL] (.lit (.tuple #[.bool true,.int .i64 0])):=by
 obtain⟨_,rfl,hA⟩:=sW
 exact hA
theorem AcM:∃r,r=AV.lit (.tuple #[.int .i64 0,.bool true,.int .i64 0])/\AF Tryz.prog 32 [Kk (Fc 499),Ga upL] r:=by
 refine Au func32 rfl ?_
 exact Ab 12 (gs (Ao (Rk 499 δ) ·) (Ab 3 (gs (Ao Aft ·) (Ab 7 (gs (Xb 0 ·) (Ab 4 (cE func46 (Ab 14 (gs (Sv 1 ·) (Ab 22 (gs (Gu 0 2 ·) (Ab 1 (uS func47 (Ab 10 (gs (Ao Amy ·) (Ab 5 (Iy (Ab 15 (Iy (Ab 6 (gs (Cu (.int (max 0 0)) .none (Jl (.const (.int .i64 0)) (.tmp 19) #[3,3] κ 0 0 κ κ) ·) (Ab 8 (Nz (r:= .lit (.tuple #[.int .i64 0,.bool true,.int .i64 0])) rfl)))))))))))))))))))))))
theorem AgE:AF Tryz.prog 32 [Kk (Fc 499),Ga upL] (.lit (.tuple #[.int .i64 0,.bool true,.int .i64 0])):=by
 obtain⟨_,rfl,hA⟩:=AcM
 exact hA
theorem sV:∃r,r=AV.lit (.tuple #[.bool false,.int .i64 0])/\AF Tryz.prog 22 [Kk (Fc 499),Ga upL] r:=by
 refine Au func22 rfl ?_
 exact Ab 11 (gs (Ao AgE ·) (Ab 23 (Nz (r:= .lit (.tuple #[.bool false,.int .i64 0])) rfl)))
theorem yJ:AF Tryz.prog 22 [Kk (Fc 499),Ga upL] (.lit (.tuple #[.bool false,.int .i64 0])):=by
 obtain⟨_,rfl,hA⟩:=sV
 exact hA
def Zi:Pr:=⟨[⟨#[97]⟩],[⟨0,0,0⟩],[⟨⟨#[117,112]⟩,2000,[⟨⟨0,0,500⟩,0,1000,0⟩]⟩]⟩
theorem Aaf:Vq Zi:=⟨δ,δ,δ,δ,δ⟩
theorem aP:De Zi=true:=by decide+kernel
theorem uW:Fn Zi 1 0=upL:=κ
theorem Aly:Dt Zi.acts 1=2000:=by decide
theorem Rh (p:Pr) (hp:Vq p) (h:De p=true) (hk:0<p.acts.length):AF Tryz.prog 21 [Gm p] (.tup [.sl 1 p.names.length λi=>Ga (Fn p p.acts.length i),.int 0]):=by
 have ho:=Od h
 refine As func21 rfl λB D0 hA0=>?_
 exact Ae 12 (Ao (Gg p hp) (Ae 4 (Jb 4 (!De p) false (by rw[h];rfl) (Ae 7 (Jb 12 (decide ((p.acts.length:Int)=0)) false (decide_eq_false ω) (Ae 10 (Ao (AeP p hp ho) (Ae 5 (Ck)))))))))
abbrev pmA (h:Int):AV:= .agg [Cd (Fc h).o,hsA (Fc h),.int 0,.int h,.int 1000,.int 3000,.int 1]
abbrev Jf (k:Int) (_:Nat):AV:= .lit (.agg #[.int .i64 k,.int .i64 0])
theorem Rj:AF Tryz.prog 11 [Gm Zi] (.bool true):=by
 have h:=Gg Zi Aaf
 rwa [aP] at h
theorem Xm:AF Tryz.prog 20 [Gm Zi] (.lit (.tuple #[.int .i64 2000,.int .i64 0])):=by
 have h:=kB Zi Aaf aP
 rw[show Dt Zi.acts Zi.acts.length=2000 from Aly] at h
 exact h
theorem Ri:AF Tryz.prog 21 [Gm Zi] (.tup [.sl 1 1 λi=>Ga (Fn Zi 1 i),.int 0]):=Rh Zi Aaf aP δ
theorem AmP:AF Tryz.prog 22 [Kk (Fc 500),Ga (Fn Zi 1 0)] (.lit (.tuple #[.bool true,.int .i64 0])):=by
 have h:=yK
 rw[<-uW] at h
 exact h
theorem ApG:AF Tryz.prog 22 [Kk (Fc 499),Ga (Fn Zi 1 0)] (.lit (.tuple #[.bool false,.int .i64 0])):=by
 have h:=yJ
 rw[<-uW] at h
 exact h
theorem Rf (h:Int) (hh:0<=h/\h<=1048576):AF Tryz.prog 9 [pmA h] (.bool true):=by
 refine As func9 rfl λB D0 hA0=>?_
 exact Ae 10 (Ao (Rk h hh) (Ae 5 (Cz (.int .i64 2999) (.int .i64 2999) (Ao (Lu 1000 0 2999 δ) (Ae 4 (Ao (Lu 3000 1 86400000 δ) (Ae 4 (Ao (Lu 1 1 64 δ) (Ae 5 (Ck))))))))))
theorem AmT:AF Tryz.prog 8 [pmA 500,Gm Zi,.int 1000] (.lit (.tuple #[.slice none 0 0,.int .i64 0])):=by
 refine As func8 rfl λB D0 hA0=>?_
 exact Ae 14 (Ao (Rf 500 δ) (Ae 8 (Ao Rj (Ae 7 (Ao (Lu 1000 0 86400000 δ) (Ae 21 (Ao Xm (Ae 27 (Cz (.int .i64 3000) (.int .i64 3000) (Ae 8 (Sv 4 (Ae 14 (Cz (.bool false) (.bool false) (Ae 14 (Cz (.int .i64 1) (.int .i64 1) (Ae 17 (Cz (.bool false) (.bool false) (Ae 14 (Cz (.int .i64 2) (.int .i64 2) (Ae 17 (Cz (.bool false) (.bool false) (Ae 14 (Cz (.int .i64 3) (.int .i64 3) (Ae 17 (Cz (.bool false) (.bool false) (Ae 14 (Cz (.int .i64 4) (.int .i64 4) (Ae 18 (Ao Ri (Ae 16 (Sv 1 (Ae 14 (Gu 0 1 (Ae 10 (Ao AmP (Ae 22 (Cz (.int .i64 1) (.int .i64 1) (Ae 23 (Ck)))))))))))))))))))))))))))))))))))))))
theorem AmU:AF Tryz.prog 8 [pmA 500,Gm Zi,.int 999] (.tup [.sl 2 1 (Jf 2),.int 0]):=by
 refine As func8 rfl λB D0 hA0=>?_
 refine Ae 14 (Ao (Rf 500 δ) (Ae 8 (Ao Rj (Ae 7 (Ao (Lu 999 0 86400000 δ) (Ae 21 (Ao Xm (Ae 27 (Cz (.int .i64 2999) (.int .i64 2999) (Ae 8 (Sv 4 (Ae 14 (Cz (.bool false) (.bool false) (Ae 14 (Cz (.int .i64 1) (.int .i64 1) (Ae 17 (Cz (.bool false) (.bool false) (Ae 14 (Cz (.int .i64 2) (.int .i64 2) (Ae 17 (Cz (.bool true) (.bool true) (Ae 14 (Kb 2 56 2 1 (λ_=> .lit (.agg #[.int .i64 2,.int .i64 0])) ?_)))))))))))))))))))))))
 refine Wz 16 56 56 2 1 2 3 (λ_=> .lit (.agg #[.int .i64 2,.int .i64 0])) (λ_=> .lit (.agg #[.int .i64 2,.int .i64 0])) (λi hi=>rfl) ?_
 exact Ae 5 (Cz (.int .i64 3) (.int .i64 3) (Ae 17 (Cz (.bool false) (.bool false) (Ae 14 (Cz (.int .i64 4) (.int .i64 4) (Ae 18 (Ao Ri (Ae 16 (Sv 1 (Ae 14 (Gu 0 1 (Ae 10 (Ao AmP (Ae 22 (Cz (.int .i64 1) (.int .i64 1) (Ae 22 (iM 3 [6] 56 2 1 (λ_=> .lit (.agg #[.int .i64 2,.int .i64 0])) (Ce λ_ _=>rfl) (Ae 1 (Ck)))))))))))))))))))
theorem AmV:AF Tryz.prog 8 [pmA 500,Gm Zi,.int 1001] (.tup [.sl 2 1 (Jf 3),.int 0]):=by
 refine As func8 rfl λB D0 hA0=>?_
 refine Ae 14 (Ao (Rf 500 δ) (Ae 8 (Ao Rj (Ae 7 (Ao (Lu 1001 0 86400000 δ) (Ae 21 (Ao Xm (Ae 27 (Cz (.int .i64 3001) (.int .i64 3001) (Ae 8 (Sv 4 (Ae 14 (Cz (.bool false) (.bool false) (Ae 14 (Cz (.int .i64 1) (.int .i64 1) (Ae 17 (Cz (.bool false) (.bool false) (Ae 14 (Cz (.int .i64 2) (.int .i64 2) (Ae 17 (Cz (.bool false) (.bool false) (Ae 14 (Cz (.int .i64 3) (.int .i64 3) (Ae 17 (Cz (.bool true) (.bool true) (Ae 14 (Kb 2 56 2 1 (λ_=> .lit (.agg #[.int .i64 3,.int .i64 0])) ?_)))))))))))))))))))))))))))
 refine Wz 16 56 56 2 1 2 3 (λ_=> .lit (.agg #[.int .i64 3,.int .i64 0])) (λ_=> .lit (.agg #[.int .i64 3,.int .i64 0])) (λi hi=>rfl) ?_
 exact Ae 5 (Cz (.int .i64 4) (.int .i64 4) (Ae 18 (Ao Ri (Ae 16 (Sv 1 (Ae 14 (Gu 0 1 (Ae 10 (Ao AmP (Ae 22 (Cz (.int .i64 1) (.int .i64 1) (Ae 22 (iM 3 [6] 56 2 1 (λ_=> .lit (.agg #[.int .i64 3,.int .i64 0])) (Ce λ_ _=>rfl) (Ae 1 (Ck)))))))))))))))
theorem AmW:AF Tryz.prog 8 [pmA 499,Gm Zi,.int 1000] (.tup [.sl 2 1 (Jf 4),.int 0]):=by
 refine As func8 rfl λB D0 hA0=>?_
 refine Ae 14 (Ao (Rf 499 δ) (Ae 8 (Ao Rj (Ae 7 (Ao (Lu 1000 0 86400000 δ) (Ae 21 (Ao Xm (Ae 27 (Cz (.int .i64 3000) (.int .i64 3000) (Ae 8 (Sv 4 (Ae 14 (Cz (.bool false) (.bool false) (Ae 14 (Cz (.int .i64 1) (.int .i64 1) (Ae 17 (Cz (.bool false) (.bool false) (Ae 14 (Cz (.int .i64 2) (.int .i64 2) (Ae 17 (Cz (.bool false) (.bool false) (Ae 14 (Cz (.int .i64 3) (.int .i64 3) (Ae 17 (Cz (.bool false) (.bool false) (Ae 14 (Cz (.int .i64 4) (.int .i64 4) (Ae 18 (Ao Ri (Ae 16 (Sv 1 (Ae 14 (Gu 0 1 (Ae 10 (Ao ApG (Ae 22 (Kb 2 56 2 1 (λ_=> .lit (.agg #[.int .i64 4,.int .i64 0])) ?_)))))))))))))))))))))))))))))))))))))
 refine Wz 16 56 56 2 1 2 3 (λ_=> .lit (.agg #[.int .i64 4,.int .i64 0])) (λ_=> .lit (.agg #[.int .i64 4,.int .i64 0])) (λi hi=>rfl) ?_
 exact Ae 5 (Cz (.int .i64 1) (.int .i64 1) (Ae 22 (iM 3 [6] 56 2 1 (λ_=> .lit (.agg #[.int .i64 4,.int .i64 0])) (Ce λ_ _=>rfl) (Ae 1 (Ck)))))
end Go.Proofs.YtihcpmmopejpoaaGreatDoor