/- Part 29 of the proof of PL.card_holds, joined by program: no condition beyond the row's own. -/
import Derived.Test.YtihcpmmopejpoaaGreatDoorPL28
import Derived.Test.YtihcpmmopejpoaaGreatDoorRows
import Derived.LaidMore
import Derived.OpenShut
import Derived.ShutString
import Derived.ChangeOld
import Derived.Lib.LaidTab
import Derived.Stop.Joined
import Derived.HandedShaped
import Derived.Deep.Fields
set_option maxRecDepth 100000
set_option maxHeartbeats 40000000
namespace Go.Proofs.YtihcpmmopejpoaaGreatDoor.Open
open Go.ChangeShapes Go.WideShapes Go.ChangeAt Go.RowKit Go.Deep
section
variable {H:Type} {enc:TypeId×Value->H} {W:World} {n:Nat} {y:DataW H×List MemPlace} {cs:List Value}
theorem Ad0 (hl:cs.length=3) (h:DataW.trod enc Tryz.prog W 0 (λ_=>true) true n 51 cs=some y):∃a:Ac,Afy W (rg 0 W.heap.size) a cs/\(a.name.size<=maxLen/\Cg a.len):=by
 match cs,hl with
 |[a,b,c],_=>
  obtain⟨m0,z0,h0⟩:=Cr (ty:=9) (off:=0) Tryz.underlying51 h 0 (by rfl)
  obtain⟨m1,z1,h1⟩:=Cr (ty:=3) (off:=1) Tryz.underlying51 h 1 (by rfl)
  obtain⟨m2,z2,h2⟩:=Cr (ty:=49) (off:=2) Tryz.underlying51 h 2 (by rfl)
  simp only[rM,Al4,AjA] at h0 h1 h2
  obtain⟨s,e0,_,hs⟩:=DataW.trod_string Tryz.underlying9 h0
  obtain⟨k1,e1,f1⟩:=Hi h1
  obtain⟨ad,len,cap,e2⟩:=Go.Joins.slice_form Tryz.underlying49 h2
  rw[e2] at h2
  obtain⟨l,g1,g2,g3,_⟩:=Mt Tryz.underlying49 Amg δ h2
  obtain⟨L,L1,L2⟩:=dC (cells:=Mv.cells) l (λcs hc=>by obtain⟨hl,n,y,ht⟩:=g2 cs hc;exact Ad1 hl ht)
  simp at e0 e1 e2
  refine⟨⟨s,k1,L⟩,⟨.slice ad len cap,by simp[e0,e1,e2],?_⟩,hs,f1⟩
  show Cm W _ 6 _ L.length (mvs L)
  have hL:L.length=len:=by omega
  rw[hL]
  unfold mvs
  rw[<-L2]
  exact g3
theorem qZ:∀(l:List (List Value)) (_:∀cs∈l,∃a:Ac,Afy W (rg 0 W.heap.size) a cs/\(a.name.size<=maxLen/\Cg a.len)),∃L:List Ac,L.length=l.length/\Th W (rg 0 W.heap.size) L l.flatten/\∀a∈L,(a.name.size<=maxLen/\Cg a.len)
 |[],_=>⟨[],rfl,rfl,by simp⟩
 |cs::l,h=>by
  obtain⟨a,ha,hs⟩:=h cs (by simp)
  obtain⟨L,h1,h2,h3⟩:=qZ l (λc hc=>h c (by simp[hc]))
  refine⟨a::L,by simp[h1],⟨cs,l.flatten,by simp,ha,h2⟩,λx hx=>?_⟩
  rcases List.mem_cons.1 hx with rfl|hx
  exact hs
  exact h3 x hx
theorem open_prog2 {v:Value} {d:DataW H} {p:List MemPlace} {base:Nat} (hv:Value.okWide Tryz.prog W .any base 31 v) (h:DataW.Trod enc Tryz.prog W 0 (λ_=>true) true 31 v d p):
  ∃(vn vh va:Value) (pr:Pr),v= .agg #[vn,vh,va]/\Hx W W.heap.size vn vh va pr/\(∀s∈pr.names,s.size<=maxLen)/\(∀a∈pr.acts,(a.name.size<=maxLen/\Cg a.len)):=by
 obtain⟨v0,v1,v2,y0,y1,y2,n,rfl,_,_,h0,h1,h2⟩:=Go.Joins.open_agg3 Tryz.underlying31 κ κ hv h
 obtain⟨a0,l0,c0,e0⟩:=Go.Joins.slice_form Tryz.underlying28 h0
 obtain⟨a1,l1,c1,e1⟩:=Go.Joins.slice_form Tryz.underlying22 h1
 obtain⟨a2,l2,c2,e2⟩:=Go.Joins.slice_form Tryz.underlying29 h2
 obtain rfl:v0= .slice a0 l0 c0:=by simpa using e0
 obtain rfl:v1= .slice a1 l1 c1:=by simpa using e1
 obtain rfl:v2= .slice a2 l2 c2:=by simpa using e2
 obtain⟨N,hN,sN,_,zN⟩:=yV h0
 obtain⟨lh,g1,g2,g3,_⟩:=Mt Tryz.underlying22 AfV δ h1
 obtain⟨Hm,H1,H2⟩:=dC (cells:=λv:V3=>[.int .i64 v.x,.int .i64 v.y,.int .i64 v.z]) lh (λcs hc=>by obtain⟨hl,n,y,ht⟩:=g2 cs hc;exact fX hl ht)
 obtain⟨la,k1,k2,k3,_⟩:=Mt Tryz.underlying29 Aoi δ h2
 obtain⟨Ac,A1,A2,A3⟩:=qZ la (λcs hc=>by obtain⟨hl,n,y,ht⟩:=k2 cs hc;exact Ad0 hl ht)
 refine⟨_,_,_,⟨N,Hm,Ac⟩,rfl,⟨sN,?_,la.flatten,?_,A2⟩,zN,A3⟩
 have hL:Hm.length=l1:=by omega
 show Bq W 0 W.heap.size 3 _ Hm.length (Iy Hm)
 rw[hL]
 unfold Iy
 rw[<-H2]
 exact g3
 have hL:Ac.length=l2:=by omega
 show Bq W 0 W.heap.size 3 _ Ac.length _
 rw[hL]
 exact k3
theorem Amh:Tryz.prog.cellsOf 22=1:=κ
end
end Go.Proofs.YtihcpmmopejpoaaGreatDoor.Open
namespace Go.Proofs.YtihcpmmopejpoaaGreatDoor
open Go.RowKit
theorem Abw {w:World} {D:Nat->Prop} {l:List V3} {v:Value} (h:Cm w D 3 v l.length (Iy l)) {E:Ar} (hw:E.w=w) (hD:∀b,D b->E.D b):VR E (Ll l) v:=
 Mj h hw hD λi j hi hj=>by
  have:=Qt (λv:V3=>[Value.int .i64 v.x,.int .i64 v.y,.int .i64 v.z]) 3 (λ_=>rfl) l i j V3.zero hi hj
  unfold Iy
  rw[this]
  match j,hj with
  |0,_=>exact .lit _ _
  |1,_=>exact .lit _ _
  |2,_=>exact .lit _ _
theorem AmS {w:World} {D:Nat->Prop} {l:List Mv} {v:Value} (h:Cm w D 6 v l.length (mvs l)) {E:Ar} (hw:E.w=w) (hD:∀b,D b->E.D b):VR E (AmR l) v:=
 Mj h hw hD λi j hi hj=>by
  have:=Qt Mv.cells 6 (λ_=>rfl) l i j Mv.none hi hj
  unfold mvs
  rw[this]
  match j,hj with
  |0,_=>exact .lit _ _
  |1,_=>exact .lit _ _
  |2,_=>exact .lit _ _
  |3,_=>exact .lit _ _
  |4,_=>exact .lit _ _
  |5,_=>exact .lit _ _
theorem Ahp {w:World} {D:Nat->Prop} {l:List ByteArray} {v:Value} (h:Cm w D 1 v l.length (strs l)) {E:Ar} (hw:E.w=w) (hD:∀b,D b->E.D b):VR E (Id l) v:=
 Mj h hw hD λi j hi hj=>by
  obtain rfl:j=0:=by omega
  have e:(strs l).getD (i*1+0) undef= .string (l.getD i ByteArray.empty):=by simp[strs,hi]
  rw[e]
  exact .lit _ _
theorem Ajv {w:World} {D:Nat->Prop} {l:List Ac} {v:Value} {cs:List Value} (h:Cm w D 3 v l.length cs) (ha:Th w D l cs) {E:Ar} (hw:E.w=w) (hD:∀b,D b->E.D b):VR E (Jy l) v:=
 Mj h hw hD λi j hi hj=>by
  obtain⟨vm,hm,hat⟩:=ha.at_ hi
  have e:l.getD i Ac.none=l[i]:=by rw[Γ,List.getElem?_eq_getElem hi];rfl
  have g:∀u,[Value.string l[i].name,.int .i64 l[i].len,vm][j]?=some u->cs.getD (i*3+j) undef=u:=λu hu=>by
   rw[Γ,hat j u hu];rfl
  rw[e]
  match j,hj with
  |0,_=>rw[g _ rfl];exact .lit _ _
  |1,_=>rw[g _ rfl];exact .lit _ _
  |2,_=>rw[g _ rfl];exact AmS (E:=E.fz) hm hw hD
theorem Ak5 {w:World} {hi:Nat} {vn vh va:Value} {p:Pr} (h:Hx w hi vn vh va p) {E:Ar} (hw:E.w=w) (hD:∀b,b<hi->E.D b):VR E (Hs p) (.agg #[vn,vh,va]):=by
 obtain⟨cs,k1,k2⟩:=h.acts
 have hD2:∀b,rg 0 hi b->E.D b:=λb hb=>hD b hb.2
 refine .agg _ _ _ rfl λi hi=>?_
 have h3:i<3:=hi
 match i,h3 with
 |0,_=>exact Ahp h.names hw hD2
 |1,_=>exact Abw h.homes hw hD2
 |2,_=>exact Ajv k1 k2 hw hD2
end Go.Proofs.YtihcpmmopejpoaaGreatDoor
namespace Go.Proofs.YtihcpmmopejpoaaGreatDoor
end Go.Proofs.YtihcpmmopejpoaaGreatDoor
namespace Go.Proofs.YtihcpmmopejpoaaGreatDoor
open Go.Proofs.Tryz
open Go.RowKit
theorem AnU {f:FuncId} {args args':List AV} {r r':AV} (h:AF Tryz.prog f args r) (hl:args'.length=args.length) (ha:∀i,i<args.length->∀E v,VR E (args'.getD i .top) v->VR E (args.getD i .top) v) (hr:∀E v,VR E r v->VR E r' v):AF Tryz.prog f args' r':=λE vs hD hn hv=>by
 refine Calls.mono (h E vs hD ω λi hi=>ha i hi _ _ (hv i ω)) ?_
 rintro e w' ⟨v,D',h1,h2,h3⟩
 exact⟨v,D',h1,hr _ _ h2,h3⟩
abbrev Amq (p:Nat->Int) (m:Nat) (a b d:Int):Nat->Int:=cN p m a b d (m-1)
theorem qB (p:Nat->Int) (a b d:Int) (ha:Cg a) (hb:Cg b) (hd:Cg d) (hdp:0<d):AF Tryz.prog 130 [Di 0 p,WA a,WA b,WA d] (.lit (.tuple #[.slice none 0 0,.int .i64 0])):=by
 refine As func130 rfl λB D0 hA0=>?_
 exact Ae 13 (Ao (Re 0 p ω (λi hi=>absurd hi (Nat.not_lt_zero i)) (.inl rfl)) (Ae 3 (Ao (Ed _ (Jo ha)) (Ae 4 (Ao (Ed _ (Jo hb)) (Ae 4 (Ao (Ed _ (Jo hd)) (Ae 11 (Ao (Nf d (Jo hd)) (Ae 3 (Jk 37 (decide (d.sign<=0)) false (decide_eq_false (by rw[Int.sign_eq_one_of_pos hdp];decide)) (Ae 20 (Cu)))))))))))))
theorem VR.nil_poly {E:Ar} {v:Value} {c:Nat->Int} {e:Int} (h:VR E (.lit (.tuple #[.slice none 0 0,.int .i64 e])) v):VR E (.tup [Di 0 c,.int e]) v:=by
 have:=h.lit_inv
 subst this
 refine .tup _ _ _ rfl λi hi=>?_
 match i,hi with
 |0,_=>exact .sl0 _ _ _ _ _
 |1,_=>exact .lit _ _
theorem dS (m:Nat) (p:Nat->Int) (a b d:Int) (hm:m<=6) (hp:∀i,Cg (p i)) (hl:m=0\/p (m-1)≠0) (ha:Cg a) (hb:Cg b) (hd:Cg d) (hdp:0<d):AF Tryz.prog 130 [Di m p,WA a,WA b,WA d] (.tup [Di (Gz (Amq p m a b d) m) (Amq p m a b d),.int 0]):=by
 cases m with
 |zero=>exact AnU (qB p a b d ha hb hd hdp) rfl (λ_ _ _ _ h=>h) λE v hv=>hv.nil_poly
 |succ k=>exact qC k p a b d ω hp (hl.resolve_left ω) ha hb hd hdp
abbrev ocN (l:List Int):Nat:=Gz (nN l) l.length
abbrev oc1 (l:List Int) (a b d:Int):Nat->Int:=Amq (nN l) (ocN l) a b d
theorem AmX {l:List Int} (h:∀i,Cg (l.getD i 0)) (hn:l.length<=6) {a b d:Int} (ha:Cg a) (hb:Cg b) (hd:Cg d) (i:Nat):Bd 500 (oc1 l a b d i):=by
 have:ocN l<=l.length:=Nw (nN l) l.length
 exact(rL h ha hb hd _ i).mono ω
theorem Aaz {y:Int} (h:((Cj y.natAbs).toList==(⟨#[]⟩:ByteArray).toList)=false):0<y.natAbs:=Nat.pos_of_ne_zero λe=>by
 rw[e,Qn] at h
 simp at h
theorem Aae (x:Int) (k:Int) (hx:Bn x):∃r,Fx [.agg [.b,.s],.one .i] r/\AF Tryz.prog 133 [.lit (Ak x),.lit (.int .i64 k)] r:=by
 have hd:=hx.digits
 have h1:=oL x.natAbs k.toNat
 have h2:=oL 1 (0-k).toNat
 have h3:=Ub
 have h4:=Nat.two_pow_pos (0-k).toNat
 have h5:=Lh (decide (x<0)) x.natAbs (1*2^(0-k).toNat)
 refine Au func133 rfl ?_
 refine Ab 11 (gs (Ao (Ed x θ) ·) (Ab 12 (Hf 15 (k< -65536) (λhx1 hx1d=>?_) (λhx1 hx1d=>?_))))
 exact Ab 15 (Bb)
 refine Ab 5 (Hf 18 ((65536:Int)<k) (λhx2 hx2d=>?_) (λhx2 hx2d=>?_))
 exact Ab 10 (Bb)
 refine Ab 6 (gs (Ao (Cz x θ) ·) (Ab 11 (Hf 23 ((0:Int)<=k) (λhx3 hx3d=>?_) (λhx3 hx3d=>?_))))
 exact Ab 2 (Dx (Nb (decide (x<0)) (x.natAbs*2^(k).toNat) ω) λv4 hv4=>(gs (Cn [(5,_,.none),(7,_,.none)] [4,5] ⟨Be (dX x.natAbs (k).toNat k ω ω ω),Be hv4,trivial⟩ ·) (Ab 3 (Bb))))
 exact Ab 4 (gs (Cn [(1,.osl 3 1 1,(.new 3 (.vec 158 1 1 (λ_=> .lit (.int .u64 1))))),(3,.int (0-k),.none),(4,Dv (1*2^(0-k).toNat),(.drop 3)),(6,_,.none)] [4,7] ⟨Ef (Ie 201 1 #[(0,(.const (.int .u64 1)))] κ underlying201 1 sizeOf158 _ zeroValue158 κ β β β 3 [.lit (.int .u64 1)] κ (λ_=> .lit (.int .u64 1)) κ),Ea (.int .i64 (IntKind.wrap .i64 (0-k))) (congrArg (Value.int .i64) (IntWalk.i64_in _ ω)),Ef (Gj 185 #[.tmp 36,.tmp 38] #[201,3] κ (λ_ _=>by kernel_rfl) 3 (.vec 158 1 1 (λ_=> .lit (.int .u64 1))) κ (λ_ _ _ _ h=>by cases h;exact(Ce λ_ _=>rfl)) [.osl 3 1 1,.int (0-k)] κ [.slc 1 1 (λ_=> .lit (.int .u64 1)),.int (0-k)] κ (Dv (1*2^(0-k).toNat)) (qM (0-k).toNat (0-k) ω ω)),Be (Iz (decide (x<0)) x.natAbs false (1*2^(0-k).toNat) ω ω ω),trivial⟩ ·) (Ab 4 (Dx (Nb (!decide ((decide (x<0))=false)) (Et (decide (x<0)) x.natAbs (1*2^(0-k).toNat)) ω) λv5 hv5=>(gs (Ao hv5 ·) (Ab 7 (Bb))))))
theorem uV (a:Rw) (k:Int) (h:Jh a=false):∃r,Fx [.agg [.b,.s],.one .i] r/\AF Tryz.prog 133 [Fr a,.int k] r:=by
 refine Au func133 rfl ?_
 exact Ab 11 (gs (Ao (Gi a) ·) (Ab 3 (iA 11 (!Jh a) true (by rw[h];rfl) (Ab 10 (Bb)))))
theorem Aad (a:Rw) (k:Int):∃r,Fx [.agg [.b,.s],.one .i] r/\AF Tryz.prog 133 [Fr a,.int k] r:=by
 cases h:Jh a with
 |false=>exact uV a k h
 |true=>
  obtain⟨x,hx,ex⟩:=Lj h
  rw[ex]
  exact Aae x k hx
noncomputable def AiF (a:Rw) (k:Int):Value:=Kl 133 [.agg [.b,.s],.one .i] [Fr a,.int k]
theorem wH (a:Rw) (k:Int):AF Tryz.prog 133 [Fr a,.int k] (.lit (Hh [.agg [.b,.s],.one .i] (AiF a k))):=Bi (Aad a k)
theorem Adb (b:Bool) (n:Nat) (c:Bool) (k:Nat) (h0:0<k/\(Al n).length<=5000/\(Al k).length<=5000):∃r,Fx [.agg [.b,.s,.b,.s],.one .i] r/\AF Tryz.prog 187 [Dg b n,Dg c k] r:=by
 have hg:0<Nat.gcd n k:=Nat.gcd_pos_of_pos_right n h0.1
 have hg1:=oK (n:=n) h0.1
 have hq1:=Lh b n (Nat.gcd n k)
 have hq2:=Lh c k (Nat.gcd n k)
 refine Au func187 rfl ?_
 refine Ab 9 (gs (Cn [(6,_,.none)] [2,3,4,6] ⟨Be (cR n k ω ω),trivial⟩ ·) (Ab 5 (gs (Ao (Iz b n c (Nat.gcd n k) ω ω ω) ·) (Ab 10 (gs (Ao (Iz c k c (Nat.gcd n k) ω ω ω) ·) (Ab 9 (Dx (Nb (!decide (b=c)) (Et b n (Nat.gcd n k)) ω) λv1 hv1=>(gs (Ao hv1 ·) (Ab 11 (Dx (Nb (!decide (c=c)) (Et c k (Nat.gcd n k)) ω) λv2 hv2=>(gs (Ao hv2 ·) (Ab 14 (Eu 43 ?_ ?_)))))))))))))
 exact Ab 15 (Bb)
 refine Ab 5 (Eu 46 ?_ ?_)
 exact Ab 10 (Bb)
 exact Ab 13 (Bb)
noncomputable def Akh (b:Bool) (n:Nat) (c:Bool) (k:Nat):Value:=Kl 187 [.agg [.b,.s,.b,.s],.one .i] [Dg b n,Dg c k]
theorem Zk (b:Bool) (n:Nat) (c:Bool) (k:Nat) (h0:0<k/\(Al n).length<=5000/\(Al k).length<=5000):AF Tryz.prog 187 [Dg b n,Dg c k] (.lit (Hh [.agg [.b,.s,.b,.s],.one .i] (Akh b n c k))):=Bi (Adb b n c k h0)
theorem Aey (x y:Int) (hx:Bn x) (hy:Bn y):∃r,Fx [.agg [.b,.s,.b,.s],.one .i] r/\AF Tryz.prog 135 [.lit (Ak x),.lit (Ak y)] r:=by
 have hd:=hx.digits
 have he:=hy.digits
 refine Au func135 rfl ?_
 refine Ab 13 (gs (Ao (Hw x y θ θ) ·) (Ab 11 (gs (Cy (.bool ((Cj y.natAbs).toList==(⟨#[]⟩:ByteArray).toList)) (.bool ((Cj y.natAbs).toList==(⟨#[]⟩:ByteArray).toList)) ·) (Ab 2 (tsb 13 ((Cj y.natAbs).toList==(⟨#[]⟩:ByteArray).toList) (λhx1=>?_) (λhx1=>?_))))))
 exact Ab 10 (Bb)
 refine Ab 3 ?_
 have hp:=Aaz hx1
 exact Ab 1 (Dx (Zk (decide (x<0)) x.natAbs (decide (y<0)) y.natAbs ω) λv2 hv2=>(gs (Cn [(1,_,.none),(3,_,.none),(4,_,.none)] [4,5] ⟨Be (Cz x θ),Be (Cz y θ),Be hv2,trivial⟩ ·) (Ab 2 (Bb))))
theorem Aac (a:Rw) (b:Rw) (h:(Jh a&&Jh b)=false):∃r,Fx [.agg [.b,.s,.b,.s],.one .i] r/\AF Tryz.prog 135 [Fr a,Fr b] r:=by
 refine Au func135 rfl ?_
 exact Ab 13 (gs (Ao (Qi a b) ·) (Ab 3 (iA 9 (!(Jh a&&Jh b)) true (by rw[h];rfl) (Ab 10 (Bb)))))
theorem Aex (a:Rw) (b:Rw):∃r,Fx [.agg [.b,.s,.b,.s],.one .i] r/\AF Tryz.prog 135 [Fr a,Fr b] r:=by
 cases h:(Jh a&&Jh b) with
 |false=>exact Aac a b h
 |true=>
  obtain⟨h1,h2⟩:=Bool.and_eq_true_iff.1 h
  obtain⟨x,hx,ex⟩:=Lj h1
  obtain⟨y,hy,ey⟩:=Lj h2
  rw[ex,ey]
  exact Aey x y hx hy
noncomputable def Alw (a:Rw) (b:Rw):Value:=Kl 135 [.agg [.b,.s,.b,.s],.one .i] [Fr a,Fr b]
theorem Zm (a:Rw) (b:Rw):AF Tryz.prog 135 [Fr a,Fr b] (.lit (Hh [.agg [.b,.s,.b,.s],.one .i] (Alw a b))):=Bi (Aex a b)
structure Rr where
 num:Rw
 den:Rw
abbrev Cp (r:Rr):AV:= .lit (.agg #[.bool r.num.neg,.string r.num.mag,.bool r.den.neg,.string r.den.mag])
abbrev Ir (x y:Int):AV:= .lit (.agg #[.bool (decide (x<0)),.string (Cj x.natAbs),.bool (decide (y<0)),.string (Cj y.natAbs)])
def Vr (r:Rr):Prop:=∃x y,Bn x/\Bn y/\0<y/\Cp r=Ir x y
noncomputable def Ug (r:Rr):Bool:=bP (Vr r)
theorem AhZ {y:Int} (h:0<y):decide ((0:Int)<y.sign)=true:=decide_eq_true (by rw[Int.sign_eq_one_of_pos h];decide)
theorem AdR {y:Int} (h:¬0<y):decide ((0:Int)<y.sign)=false:=decide_eq_false λg=>by
 by_cases h0:y=0
 subst h0;exact absurd g δ
 rw[Int.sign_eq_neg_one_of_neg ω] at g;exact absurd g δ
theorem Nd (x y:Int) (hx:Bn x) (hy:Bn y) (hp:0<y):AF Tryz.prog 223 [Ir x y] (.bool true):=by
 have hz:=AhZ hp
 refine As func223 rfl λB D0 hA0=>?_
 exact Ae 12 (Ao (Hw x y θ θ) (Ae 3 (Ao (Nf y θ) (Ae 6 (Fd (.bool (decide ((0:Int)<(y).sign))) (congrArg AV.bool hz))))))
theorem wE (x y:Int) (hx:Bn x) (hy:Bn y) (hp:¬0<y):AF Tryz.prog 223 [Ir x y] (.bool false):=by
 have hz:=AdR hp
 refine As func223 rfl λB D0 hA0=>?_
 exact Ae 12 (Ao (Hw x y θ θ) (Ae 3 (Ao (Nf y θ) (Ae 6 (Fd (.bool (decide ((0:Int)<(y).sign))) (congrArg AV.bool hz))))))
theorem wD (r:Rr) (h:(Jh r.num&&Jh r.den)=false):AF Tryz.prog 223 [Cp r] (.bool false):=by
 refine As func223 rfl λB D0 hA0=>?_
 exact Ae 12 (Ao (Qi r.num r.den) (Ae 1 (Jk 8 (Jh r.num&&Jh r.den) false h (Ae 9 (Cu)))))
theorem AoF {r:Rr} {x y:Int} (h1:Fr r.num=WA x) (h2:Fr r.den=WA y):Cp r=Ir x y:=by
 have e1:Value.agg #[.bool r.num.neg,.string r.num.mag]=Ak x:=AV.lit.inj h1
 have e2:Value.agg #[.bool r.den.neg,.string r.den.mag]=Ak y:=AV.lit.inj h2
 unfold Ak at e1 e2
 simp only[Value.agg.injEq,Array.mk.injEq,List.cons.injEq,Value.bool.injEq,Value.string.injEq,and_true] at e1 e2
 unfold Cp Ir
 rw[e1.1,e1.2,e2.1,e2.2]
theorem We (r:Rr):AF Tryz.prog 223 [Cp r] (.bool (Ug r)):=by
 by_cases hr:Vr r
 have e:Ug r=true:=cW hr
 rw[e]
 obtain⟨x,y,hx,hy,hp,e⟩:=hr
 rw[e]
 exact Nd x y hx hy hp
 have e:Ug r=false:=Gc hr
 rw[e]
 cases h:(Jh r.num&&Jh r.den) with
 |false=>exact wD r h
 |true=>
  obtain⟨h1,h2⟩:=Bool.and_eq_true_iff.1 h
  obtain⟨x,hx,ex⟩:=Lj h1
  obtain⟨y,hy,ey⟩:=Lj h2
  have e2:=AoF ex ey
  rw[e2]
  exact wE x y hx hy λhp=>hr ⟨x,y,hx,hy,hp,e2⟩
theorem Wr {r:Rr} (h:Ug r=true):Vr r:=Aay h
theorem Xf (a b:Rr):AF Tryz.prog 196 [Cp a,Cp b] (.bool (Ug a&&Ug b)):=by
 refine As func196 rfl λB D0 hA0=>?_
 refine Ae 10 (Ao (We a) (Ae 1 (vsb 7 (Ug a) (λhx1=>?_) (λhx1=>?_))))
 ·
  exact Ae 1 (Ao (We b) (Ae 5 (Fd (.bool (Ug b)) (congrArg AV.bool (by rw[hx1];rfl)))))
 ·
  exact Ae 7 (Fd (.bool false) (congrArg AV.bool (by rw[hx1];rfl)))
theorem Td (x y u v:Int) (hx:Bn x) (hy:Bn y) (hu:Bn u) (hv:Bn v) (hyp:0<y) (hvp:0<v):AF Tryz.prog 196 [Ir x y,Ir u v] (.bool true):=by
 refine As func196 rfl λB D0 hA0=>?_
 exact Ae 10 (Ao (Nd x y θ θ θ) (Ae 2 (Ao (Nd u v θ θ θ) (Ae 5 (Cu)))))
theorem Oe (x y u v:Int) (hx:Bn x) (hy:Bn y) (hu:Bn u) (hv:Bn v):AF Tryz.prog 197 [Ir x y,Ir u v] (.tup [Dg (!decide (decide (x<0)=decide (v<0))) (x.natAbs*v.natAbs),Dg (!decide (decide (u<0)=decide (y<0))) (u.natAbs*y.natAbs),Dg (!decide (decide (y<0)=decide (v<0))) (y.natAbs*v.natAbs)]):=by
 have d1:=hx.digits
 have d2:=hy.digits
 have d3:=hu.digits
 have d4:=hv.digits
 refine As func197 rfl λB D0 hA0=>?_
 exact Ae 10 (Cn [(2,_,.none),(5,_,.none),(6,_,.none),(9,_,.none),(12,_,.none),(13,_,.none),(16,_,.none),(19,_,.none),(20,_,.none)] [4,5,6] ⟨Be (Cz x θ),Be (Cz v θ),Be (Qk (decide (x<0)) x.natAbs (decide (v<0)) v.natAbs ω ω),Be (Cz u θ),Be (Cz y θ),Be (Qk (decide (u<0)) u.natAbs (decide (y<0)) y.natAbs ω ω),Be (Cz y θ),Be (Cz v θ),Be (Qk (decide (y<0)) y.natAbs (decide (v<0)) v.natAbs ω ω),trivial⟩ (Ae 2 (Cu)))
theorem AkF (x y u v:Int) (hx:Bn x) (hy:Bn y) (hu:Bn u) (hv:Bn v) (hyp:0<y) (hvp:0<v):∃r,Fx [.one .i,.one .i] r/\AF Tryz.prog 142 [Ir x y,Ir u v] r:=by
 have d1:=hx.digits
 have d2:=hy.digits
 have d3:=hu.digits
 have d4:=hv.digits
 have p1:=Ew x.natAbs v.natAbs
 have p2:=Ew u.natAbs y.natAbs
 have p3:=Ew y.natAbs v.natAbs
 have p4:=Ew x.natAbs u.natAbs
 have p5:=Ib (!decide (decide (x<0)=decide (v<0))) (x.natAbs*v.natAbs) (!decide (decide (u<0)=decide (y<0))) (u.natAbs*y.natAbs)
 have p6:=Ib (!decide (decide (x<0)=decide (v<0))) (x.natAbs*v.natAbs) (!!decide (decide (u<0)=decide (y<0))) (u.natAbs*y.natAbs)
 have p7:0<y.natAbs*v.natAbs:=Nat.mul_pos ω ω
 refine Au func142 rfl ?_
 exact Ab 13 (gs (Ao (Td x y u v θ θ θ θ θ θ) ·) (Ab 10 (gs (Ao (Oe x y u v θ θ θ θ) ·) (Ab 13 (Dx (Afd (Nh (!decide (decide (x<0)=decide (v<0))) (x.natAbs*v.natAbs) (!(!decide (decide (u<0)=decide (y<0)))) (u.natAbs*y.natAbs)) (Lm (!decide (decide (x<0)=decide (v<0))) (x.natAbs*v.natAbs) (!(!decide (decide (u<0)=decide (y<0)))) (u.natAbs*y.natAbs))) λv1 hv1=>(gs (Cn [(2,_,.none),(3,_,.none),(4,_,.none)] [4,5] ⟨Be (Va (!decide (decide (u<0)=decide (y<0))) (u.natAbs*y.natAbs)),Be (Mz (!decide (decide (x<0)=decide (v<0))) (x.natAbs*v.natAbs) (!(!decide (decide (u<0)=decide (y<0)))) (u.natAbs*y.natAbs) ω ω),Be hv1,trivial⟩ ·) (Ab 2 (Bb))))))))
theorem AhG (a:Rr) (b:Rr) (h:(Ug a&&Ug b)=false):∃r,Fx [.one .i,.one .i] r/\AF Tryz.prog 142 [Cp a,Cp b] r:=by
 refine Au func142 rfl ?_
 exact Ab 13 (gs (Ao (Xf a b) ·) (Ab 3 (iA 12 (!(Ug a&&Ug b)) true (by rw[h];rfl) (Ab 9 (Bb)))))
theorem AkE (a:Rr) (b:Rr):∃r,Fx [.one .i,.one .i] r/\AF Tryz.prog 142 [Cp a,Cp b] r:=by
 cases h:(Ug a&&Ug b) with
 |false=>exact AhG a b h
 |true=>
  obtain⟨h1,h2⟩:=Bool.and_eq_true_iff.1 h
  obtain⟨x,y,hx,hy,hyp,ex⟩:=Wr h1
  obtain⟨u,v,hu,hv,hvp,ey⟩:=Wr h2
  rw[ex,ey]
  exact AkF x y u v hx hy hu hv hyp hvp
noncomputable def Ao9 (a:Rr) (b:Rr):Value:=Kl 142 [.one .i,.one .i] [Cp a,Cp b]
theorem Ajl (a:Rr) (b:Rr):AF Tryz.prog 142 [Cp a,Cp b] (.lit (Hh [.one .i,.one .i] (Ao9 a b))):=Bi (AkE a b)
theorem AkC (x y u v:Int) (hx:Bn x) (hy:Bn y) (hu:Bn u) (hv:Bn v) (hyp:0<y) (hvp:0<v):∃r,Fx [.agg [.b,.s,.b,.s],.one .i] r/\AF Tryz.prog 149 [Ir x y,Ir u v] r:=by
 have d1:=hx.digits
 have d2:=hy.digits
 have d3:=hu.digits
 have d4:=hv.digits
 have p1:=Ew x.natAbs v.natAbs
 have p2:=Ew u.natAbs y.natAbs
 have p3:=Ew y.natAbs v.natAbs
 have p4:=Ew x.natAbs u.natAbs
 have p5:=Ib (!decide (decide (x<0)=decide (v<0))) (x.natAbs*v.natAbs) (!decide (decide (u<0)=decide (y<0))) (u.natAbs*y.natAbs)
 have p6:=Ib (!decide (decide (x<0)=decide (v<0))) (x.natAbs*v.natAbs) (!!decide (decide (u<0)=decide (y<0))) (u.natAbs*y.natAbs)
 have p7:0<y.natAbs*v.natAbs:=Nat.mul_pos ω ω
 refine Au func149 rfl ?_
 exact Ab 13 (gs (Ao (Td x y u v θ θ θ θ θ θ) ·) (Ab 10 (gs (Ao (Oe x y u v θ θ θ θ) ·) (Ab 13 (Dx (Zk (Nh (!decide (decide (x<0)=decide (v<0))) (x.natAbs*v.natAbs) (!decide (decide (u<0)=decide (y<0))) (u.natAbs*y.natAbs)) (Lm (!decide (decide (x<0)=decide (v<0))) (x.natAbs*v.natAbs) (!decide (decide (u<0)=decide (y<0))) (u.natAbs*y.natAbs)) (!decide (decide (y<0)=decide (v<0))) (y.natAbs*v.natAbs) ω) λv1 hv1=>(gs (Cn [(2,_,.none),(4,_,.none)] [4,5] ⟨Be (Mz (!decide (decide (x<0)=decide (v<0))) (x.natAbs*v.natAbs) (!decide (decide (u<0)=decide (y<0))) (u.natAbs*y.natAbs) ω ω),Be hv1,trivial⟩ ·) (Ab 2 (Bb))))))))
theorem AhF (a:Rr) (b:Rr) (h:(Ug a&&Ug b)=false):∃r,Fx [.agg [.b,.s,.b,.s],.one .i] r/\AF Tryz.prog 149 [Cp a,Cp b] r:=by
 refine Au func149 rfl ?_
 exact Ab 13 (gs (Ao (Xf a b) ·) (Ab 3 (iA 12 (!(Ug a&&Ug b)) true (by rw[h];rfl) (Ab 10 (Bb)))))
theorem AkB (a:Rr) (b:Rr):∃r,Fx [.agg [.b,.s,.b,.s],.one .i] r/\AF Tryz.prog 149 [Cp a,Cp b] r:=by
 cases h:(Ug a&&Ug b) with
 |false=>exact AhF a b h
 |true=>
  obtain⟨h1,h2⟩:=Bool.and_eq_true_iff.1 h
  obtain⟨x,y,hx,hy,hyp,ex⟩:=Wr h1
  obtain⟨u,v,hu,hv,hvp,ey⟩:=Wr h2
  rw[ex,ey]
  exact AkC x y u v hx hy hu hv hyp hvp
noncomputable def Ao8 (a:Rr) (b:Rr):Value:=Kl 149 [.agg [.b,.s,.b,.s],.one .i] [Cp a,Cp b]
theorem mW (a:Rr) (b:Rr):AF Tryz.prog 149 [Cp a,Cp b] (.lit (Hh [.agg [.b,.s,.b,.s],.one .i] (Ao8 a b))):=Bi (AkB a b)
theorem AkK (x y u v:Int) (hx:Bn x) (hy:Bn y) (hu:Bn u) (hv:Bn v) (hyp:0<y) (hvp:0<v):∃r,Fx [.agg [.b,.s,.b,.s],.one .i] r/\AF Tryz.prog 150 [Ir x y,Ir u v] r:=by
 have d1:=hx.digits
 have d2:=hy.digits
 have d3:=hu.digits
 have d4:=hv.digits
 have p1:=Ew x.natAbs v.natAbs
 have p2:=Ew u.natAbs y.natAbs
 have p3:=Ew y.natAbs v.natAbs
 have p4:=Ew x.natAbs u.natAbs
 have p5:=Ib (!decide (decide (x<0)=decide (v<0))) (x.natAbs*v.natAbs) (!decide (decide (u<0)=decide (y<0))) (u.natAbs*y.natAbs)
 have p6:=Ib (!decide (decide (x<0)=decide (v<0))) (x.natAbs*v.natAbs) (!!decide (decide (u<0)=decide (y<0))) (u.natAbs*y.natAbs)
 have p7:0<y.natAbs*v.natAbs:=Nat.mul_pos ω ω
 refine Au func150 rfl ?_
 exact Ab 13 (gs (Ao (Td x y u v θ θ θ θ θ θ) ·) (Ab 7 (Dx (Zk (!decide ((decide (x<0))=(decide (u<0)))) (x.natAbs*u.natAbs) (!decide ((decide (y<0))=(decide (v<0)))) (y.natAbs*v.natAbs) ω) λv1 hv1=>(gs (Cn [(2,_,.none),(5,_,.none),(6,_,.none),(9,_,.none),(12,_,.none),(13,_,.none),(14,_,.none)] [4,5] ⟨Be (Cz x θ),Be (Cz u θ),Be (Qk (decide (x<0)) x.natAbs (decide (u<0)) u.natAbs ω ω),Be (Cz y θ),Be (Cz v θ),Be (Qk (decide (y<0)) y.natAbs (decide (v<0)) v.natAbs ω ω),Be hv1,trivial⟩ ·) (Ab 2 (Bb))))))
theorem AhL (a:Rr) (b:Rr) (h:(Ug a&&Ug b)=false):∃r,Fx [.agg [.b,.s,.b,.s],.one .i] r/\AF Tryz.prog 150 [Cp a,Cp b] r:=by
 refine Au func150 rfl ?_
 exact Ab 13 (gs (Ao (Xf a b) ·) (Ab 3 (iA 9 (!(Ug a&&Ug b)) true (by rw[h];rfl) (Ab 10 (Bb)))))
theorem AkJ (a:Rr) (b:Rr):∃r,Fx [.agg [.b,.s,.b,.s],.one .i] r/\AF Tryz.prog 150 [Cp a,Cp b] r:=by
 cases h:(Ug a&&Ug b) with
 |false=>exact AhL a b h
 |true=>
  obtain⟨h1,h2⟩:=Bool.and_eq_true_iff.1 h
  obtain⟨x,y,hx,hy,hyp,ex⟩:=Wr h1
  obtain⟨u,v,hu,hv,hvp,ey⟩:=Wr h2
  rw[ex,ey]
  exact AkK x y u v hx hy hu hv hyp hvp
noncomputable def AoD (a:Rr) (b:Rr):Value:=Kl 150 [.agg [.b,.s,.b,.s],.one .i] [Cp a,Cp b]
theorem mX (a:Rr) (b:Rr):AF Tryz.prog 150 [Cp a,Cp b] (.lit (Hh [.agg [.b,.s,.b,.s],.one .i] (AoD a b))):=Bi (AkJ a b)
theorem AdH (x y:Int) (hx:Bn x) (hy:Bn y) (hyp:0<y):∃r,Fx [.agg [.b,.s],.one .i] r/\AF Tryz.prog 188 [Ir x y] r:=by
 have hd:=hx.digits
 have he:=hy.digits
 have p5:=Lh (decide (x<0)) x.natAbs y.natAbs
 refine Au func188 rfl ?_
 exact Ab 11 (gs (Ao (Nd x y θ θ θ) ·) (Ab 7 (gs (Cn [(2,_,.none),(5,_,.none),(6,_,.none)] [2,4] ⟨Be (Cz x θ),Be (Cz y θ),Be (Iz (decide (x<0)) x.natAbs (decide (y<0)) y.natAbs ω ω ω),trivial⟩ ·) (Ab 4 (Dx (Nb (!decide ((decide (x<0))=(decide (y<0)))) (Et (decide (x<0)) x.natAbs y.natAbs) ω) λv1 hv1=>(gs (Ao hv1 ·) (Ab 7 (Bb))))))))
theorem zG (a:Rr) (h:Ug a=false):∃r,Fx [.agg [.b,.s],.one .i] r/\AF Tryz.prog 188 [Cp a] r:=by
 refine Au func188 rfl ?_
 exact Ab 11 (gs (Ao (We a) ·) (Ab 3 (iA 8 (!Ug a) true (by rw[h];rfl) (Ab 10 (Bb)))))
theorem AdG (a:Rr):∃r,Fx [.agg [.b,.s],.one .i] r/\AF Tryz.prog 188 [Cp a] r:=by
 cases h:Ug a with
 |false=>exact zG a h
 |true=>
  obtain⟨x,y,hx,hy,hyp,ex⟩:=Wr h
  rw[ex]
  exact AdH x y hx hy hyp
noncomputable def AkI (a:Rr):Value:=Kl 188 [.agg [.b,.s],.one .i] [Cp a]
theorem AbQ (a:Rr):AF Tryz.prog 188 [Cp a] (.lit (Hh [.agg [.b,.s],.one .i] (AkI a))):=Bi (AdG a)
theorem Aet (a:Rw) (h:Jh a=false):∃r,Fx [.one .i,.one .i] r/\AF Tryz.prog 189 [Fr a] r:=by
 refine Au func189 rfl ?_
 exact Ab 11 (gs (Ao (Gi a) ·) (Ab 3 (iA 7 (!Jh a) true (by rw[h];rfl) (Ab 9 (Bb)))))
theorem Ai5 (a:Rw):∃r,Fx [.one .i,.one .i] r/\AF Tryz.prog 189 [Fr a] r:=by
 cases h:Jh a with
 |false=>exact Aet a h
 |true=>
  obtain⟨x,hx,ex⟩:=Lj h
  rw[ex]
  exact⟨.lit (.tuple #[.int .i64 (iR x),.int .i64 (iE x)]),rfl,qS x hx⟩
noncomputable def AnD (a:Rw):Value:=Kl 189 [.one .i,.one .i] [Fr a]
theorem Afo (a:Rw):AF Tryz.prog 189 [Fr a] (.lit (Hh [.one .i,.one .i] (AnD a))):=Bi (Ai5 a)
def Tw (x y:Int):Int:=(Nat.gcd x.natAbs y.natAbs:Int)
theorem AgE {x y:Int} (h:0<y):0<Nat.gcd x.natAbs y.natAbs:=Nat.gcd_pos_of_pos_right _ ω
theorem AhY (x:Int) {g:Nat} (hg:0<g):Dw (!decide (decide (x<0)=false)) (Et (decide (x<0)) x.natAbs g)=x/(g:Int):=by
 have:=(Yz x (g:Int) ω).1
 rwa [show decide ((g:Int)<0)=false from decide_eq_false ω,Int.natAbs_natCast] at this
theorem AhX {y:Int} (hy:0<y) {g:Nat} (hg:0<g):Dw (!decide (false=false)) (Et false y.natAbs g)=y/(g:Int):=by
 have:=(Yz y (g:Int) ω).1
 rwa [show decide ((g:Int)<0)=false from decide_eq_false ω,show decide (y<0)=false from decide_eq_false ω,Int.natAbs_natCast] at this
abbrev Ahj (x y:Int):Value:= .tuple #[.agg #[.bool (decide (x/Tw x y<0)),.string (Cj (x/Tw x y).natAbs),.bool (decide (y/Tw x y<0)),.string (Cj (y/Tw x y).natAbs)],.int .i64 0]
theorem vY (x y:Int) (hx:Bn x) (hy:Bn y) (hp:0<y):AF Tryz.prog 187 [Dg (decide (x<0)) x.natAbs,Dg false y.natAbs] (.lit (Ahj x y)):=by
 have hd:=hx.digits
 have he:=hy.digits
 have hg:=AgE (x:=x) hp
 have h1:=sW x.natAbs y.natAbs
 have h2:=Lh (decide (x<0)) x.natAbs (Nat.gcd x.natAbs y.natAbs)
 have h3:=Lh false y.natAbs (Nat.gcd x.natAbs y.natAbs)
 have z1:Dw (!decide ((decide (x<0))=false)) (Et (decide (x<0)) x.natAbs (Nat.gcd x.natAbs y.natAbs))=x/Tw x y:=AhY x hg
 have z2:Dw (!decide (false=false)) (Et false y.natAbs (Nat.gcd x.natAbs y.natAbs))=y/Tw x y:=AhX hp hg
 have f1:Bn (x/Tw x y):=Rt hx
 have f2:Bn (y/Tw x y):=Rt hy
 have e1:decide ((It (Dw (!decide ((decide (x<0))=false)) (Et (decide (x<0)) x.natAbs (Nat.gcd x.natAbs y.natAbs))))=0)=true:=decide_eq_true (by rw[z1];exact Ju f1)
 have e2:decide ((It (Dw (!decide (false=false)) (Et false y.natAbs (Nat.gcd x.natAbs y.natAbs))))=0)=true:=decide_eq_true (by rw[z2];exact Ju f2)
 refine As func187 rfl λB D0 hA0=>?_
 exact Ae 9 (Cn [(6,_,.none)] [2,3,4,6] ⟨Be (cR x.natAbs y.natAbs ω ω),trivial⟩ (Ae 5 (Ao (Iz (decide (x<0)) x.natAbs false (Nat.gcd x.natAbs y.natAbs) ω ω ω) (Ae 10 (Ao (Iz false y.natAbs false (Nat.gcd x.natAbs y.natAbs) ω ω ω) (Ae 9 (Ao (Fg (!decide ((decide (x<0))=false)) (Et (decide (x<0)) x.natAbs (Nat.gcd x.natAbs y.natAbs)) ω) (Ae 11 (Ao (Fg (!decide (false=false)) (Et false y.natAbs (Nat.gcd x.natAbs y.natAbs)) ω) (Ae 14 (Jk 43 (!decide (It (Dw (!decide ((decide (x<0))=false)) (Et (decide (x<0)) x.natAbs (Nat.gcd x.natAbs y.natAbs)))=0)) false (by rw[e1];rfl) (Ae 5 (Jk 46 (!decide (It (Dw (!decide (false=false)) (Et false y.natAbs (Nat.gcd x.natAbs y.natAbs)))=0)) false (by rw[e2];rfl) (Ae 13 (Fd (.lit (.tuple #[.agg #[.bool (decide (Ha (Dw (!decide ((decide (x<0))=false)) (Et (decide (x<0)) x.natAbs (Nat.gcd x.natAbs y.natAbs)))<0)),.string (Cj (Ha (Dw (!decide ((decide (x<0))=false)) (Et (decide (x<0)) x.natAbs (Nat.gcd x.natAbs y.natAbs)))).natAbs),.bool (decide (Ha (Dw (!decide (false=false)) (Et false y.natAbs (Nat.gcd x.natAbs y.natAbs)))<0)),.string (Cj (Ha (Dw (!decide (false=false)) (Et false y.natAbs (Nat.gcd x.natAbs y.natAbs)))).natAbs)],.int .i64 0])) (by rw[z1,z2,Ga f1,Ga f2]))))))))))))))))
theorem vZ (x y:Int) (hx:Bn x) (hy:Bn y) (hp:0<y):AF Tryz.prog 187 [Dg (decide (x<0)) x.natAbs,Dg (decide (y<0)) y.natAbs] (.lit (Ahj x y)):=by
 have h:=vY x y hx hy hp
 rw[show decide (y<0)=false from decide_eq_false ω]
 exact h
theorem Wf (x y:Int) (hx:Bn x) (hy:Bn y) (hp:0<y):AF Tryz.prog 135 [WA x,WA y] (.lit (Ahj x y)):=by
 have hb:((Cj y.natAbs).toList==(⟨#[]⟩:ByteArray).toList)=false:=wW ω
 refine As func135 rfl λB D0 hA0=>?_
 refine Ae 13 (Ao (Hw x y θ θ) (Ae 11 (Cy (.bool ((Cj y.natAbs).toList==(⟨#[]⟩:ByteArray).toList)) (.bool false) ?_ (congrArg Value.bool hb))))
 exact Ae 6 (Cn [(1,_,.none),(3,_,.none),(4,_,.none)] [4,5] ⟨Be (Cz x θ),Be (Cz y θ),Be (vZ x y hx hy hp),trivial⟩ (Ae 2 (Cu)))
theorem AkT (b:Bool) (n:Nat):Dw (!b) n= -Dw b n:=by unfold Dw;cases b<;>simp
theorem Afh (x y u v:Int) (hx:Bn x) (hy:Bn y) (hu:Bn u) (hv:Bn v) (hyp:0<y) (hvp:0<v):AF Tryz.prog 142 [Ir x y,Ir u v] (.lit (.tuple #[.int .i64 (x*v-u*y).sign,.int .i64 0])):=by
 have d1:=hx.digits
 have d2:=hy.digits
 have d3:=hu.digits
 have d4:=hv.digits
 have p1:=Ew x.natAbs v.natAbs
 have p2:=Ew u.natAbs y.natAbs
 have p5:=Ib (!decide (decide (x<0)=decide (v<0))) (x.natAbs*v.natAbs) (!(!decide (decide (u<0)=decide (y<0)))) (u.natAbs*y.natAbs)
 have z:Dw (Nh (!decide (decide (x<0)=decide (v<0))) (x.natAbs*v.natAbs) (!(!decide (decide (u<0)=decide (y<0)))) (u.natAbs*y.natAbs)) (Lm (!decide (decide (x<0)=decide (v<0))) (x.natAbs*v.natAbs) (!(!decide (decide (u<0)=decide (y<0)))) (u.natAbs*y.natAbs))=x*v-u*y:=by rw[pM,gR,AkT,gR];omega
 refine As func142 rfl λB D0 hA0=>?_
 exact Ae 13 (Ao (Td x y u v hx hy hu hv hyp hvp) (Ae 10 (Ao (Oe x y u v hx hy hu hv) (Ae 13 (Cn [(2,_,.none),(3,_,.none),(4,_,.none)] [4,5] ⟨Be (Va (!decide (decide (u<0)=decide (y<0))) (u.natAbs*y.natAbs)),Be (Mz (!decide (decide (x<0)=decide (v<0))) (x.natAbs*v.natAbs) (!(!decide (decide (u<0)=decide (y<0)))) (u.natAbs*y.natAbs) ω ω),Be (Zl (Nh (!decide (decide (x<0)=decide (v<0))) (x.natAbs*v.natAbs) (!(!decide (decide (u<0)=decide (y<0)))) (u.natAbs*y.natAbs)) (Lm (!decide (decide (x<0)=decide (v<0))) (x.natAbs*v.natAbs) (!(!decide (decide (u<0)=decide (y<0)))) (u.natAbs*y.natAbs)) ω),trivial⟩ (Ae 2 (Fd (.lit (.tuple #[.int .i64 ((Dw (Nh (!decide (decide (x<0)=decide (v<0))) (x.natAbs*v.natAbs) (!(!decide (decide (u<0)=decide (y<0)))) (u.natAbs*y.natAbs)) (Lm (!decide (decide (x<0)=decide (v<0))) (x.natAbs*v.natAbs) (!(!decide (decide (u<0)=decide (y<0)))) (u.natAbs*y.natAbs))).sign),.int .i64 0])) (by rw[z]))))))))
theorem wA (x y:Int) (hx:Bn x) (hy:Bn y) (hp:0<y):AF Tryz.prog 188 [Ir x y] (.lit (.tuple #[Ak (x/y),.int .i64 0])):=by
 have hd:=hx.digits
 have he:=hy.digits
 have hm0:0<y.natAbs:=by omega
 have h1:=Lh (decide (x<0)) x.natAbs y.natAbs
 have z:=(Yz x y ω).1
 have f1:Bn (x/y):=Rt hx
 refine As func188 rfl λB D0 hA0=>?_
 exact Ae 11 (Ao (Nd x y hx hy hp) (Ae 7 (Cn [(2,_,.none),(5,_,.none),(6,_,.none)] [2,4] ⟨Be (Cz x θ),Be (Cz y θ),Be (Iz (decide (x<0)) x.natAbs (decide (y<0)) y.natAbs ω ω ω),trivial⟩ (Ae 4 (Ao (Fg (!decide ((decide (x<0))=(decide (y<0)))) (Et (decide (x<0)) x.natAbs y.natAbs) ω) (Ae 7 (Fd (.lit (.tuple #[Ak (Ha (Dw (!decide ((decide (x<0))=(decide (y<0)))) (Et (decide (x<0)) x.natAbs y.natAbs))),.int .i64 (It (Dw (!decide ((decide (x<0))=(decide (y<0)))) (Et (decide (x<0)) x.natAbs y.natAbs)))])) (by rw[z,Ga f1,Ju f1]))))))))
theorem AkU (x:Int) (k:Nat):Dw (decide (x<0)) (x.natAbs*2^k)=x*((2^k:Nat):Int):=by
 have h:=Ke x
 unfold Dw at h ⊢
 by_cases hx:x<0
 rw[if_pos (by simpa using hx)] at h ⊢
 rw[Int.natCast_mul,<-Int.neg_mul,h]
 rw[if_neg (by simpa using hx)] at h ⊢
 rw[Int.natCast_mul,h]
theorem eE (x:Int) (k:Nat) (hx:Bn x) (hk:k<=60000) (hf:Bn (x*((2^k:Nat):Int))):AF Tryz.prog 133 [WA x,.int (k:Int)] (.lit (.tuple #[Ak (x*((2^k:Nat):Int)),.int .i64 0])):=by
 have hd:=hx.digits
 have h1:=oL x.natAbs k
 refine As func133 rfl λB D0 hA0=>?_
 exact Ae 11 (Ao (Ed x θ) (Ae 12 (Jk 15 (decide ((k:Int)< -65536)) false (decide_eq_false ω) (Ae 5 (Jk 18 (decide ((65536:Int)<(k:Int))) false (decide_eq_false ω) (Ae 6 (Ao (Cz x θ) (Ae 11 (Jk 23 (decide ((0:Int)<=(k:Int))) true (decide_eq_true ω) (Ae 2 (Cn [(5,_,.none),(7,_,.none)] [4,5] ⟨Be (dX x.natAbs k (k:Int) rfl ω ω),Be (Fg (decide (x<0)) (x.natAbs*2^k) ω),trivial⟩ (Ae 3 (Fd (.lit (.tuple #[Ak (Ha (Dw (decide (x<0)) (x.natAbs*2^k))),.int .i64 (It (Dw (decide (x<0)) (x.natAbs*2^k)))])) (by rw[AkU,Ga hf,Ju hf]))))))))))))))
structure Ws where
 n:Nat
 f:Nat->Rw
abbrev Qh (l:Ws):AV:= .sl 2 l.n λi=>Fr (l.f i)
abbrev wsZ (n:Nat) (c:Nat->Int):Ws:=⟨n,λi=>⟨decide (c i<0),Cj (c i).natAbs⟩⟩
def Aln (g:Nat->Rw) (j:Nat) (r:Rw):Nat->Rw:=λk=>if k=j then r else g k
theorem Alo (g:Nat->Rw) (j:Nat) (r:Rw) (k:Nat):(if k=j then Fr r else Fr (g k))=Fr (Aln g j r k):=by unfold Aln;by_cases h:k=j<;>simp[h]
theorem rw0:AV.lit (Ak 0)=Fr ⟨false,⟨#[]⟩⟩:=by
 show AV.lit (Ak 0)= .lit (.agg #[.bool false,.string ⟨#[]⟩])
 unfold Ak
 rw[show (0:Int).natAbs=0 from rfl,Qn];rfl
theorem Ak4 (s:Rw) (a:Rw) (k:Int):∃r,Fx [.agg [.b,.s]] r/\AF Tryz.prog 219 [Fr s,Fr a,.int k] r:=by
 refine Au func219 rfl ?_
 exact Ab 8 (Dx (Lz k) λv1 hv1=>(Dx (eD a (⟨(gB (gT v1 0)),(gS (gT v1 1))⟩)) λv2 hv2=>(gs (Cn [(2,_,.none),(3,_,.none)] [3,4,6] ⟨Be hv1,Be hv2,trivial⟩ ·) (Ab 5 (Dx (qQ s (⟨(gB (gT (gT v2 0) 0)),(gS (gT (gT v2 0) 1))⟩)) λv3 hv3=>(gs (Ao hv3 ·) (Ab 13 (Bb))))))))
noncomputable def Ao1 (s:Rw) (a:Rw) (k:Int):Value:=Kl 219 [.agg [.b,.s]] [Fr s,Fr a,.int k]
theorem Ajk (s:Rw) (a:Rw) (k:Int):AF Tryz.prog 219 [Fr s,Fr a,.int k] (.lit (Hh [.agg [.b,.s]] (Ao1 s a k))):=Bi (Ak4 s a k)
theorem Alu (n:Int) (k:Nat) (h0:k<=1000000):∃r,Fx [.one .i] r/\AF Tryz.prog 220 [.int n,.int (k:Int)] r:=by
 refine Au func220 rfl ?_
 refine Ab 18 (Vj [0,5,7,8] (λm s=>∃i w,m=k-i/\(i<=k)/\s=⟨[(0,.int n),(5,.int w),(7,.int (k:Int)),(8,.int (i:Int))],[],0,21⟩) (k-0) ⟨0,1,rfl,Nat.zero_le _,κ⟩ ?_)
 rintro _ _ ⟨i,w,rfl,hF,rfl⟩ hJ1
 refine Ab 6 (Hf 9 ((i:Int)<(k:Int)) (λhx1 hx1d=>?_) (λhx1 hx1d=>?_))
 exact Ab 18 (gs (Db ((i:Int)+1) ((i+1:Nat):Int) ·) (gs (AoR (Ai (w*(Ai (n-(i:Int))))) ((i+1:Nat):Int) ω ·) (Ab 5 (gs (Db ((i:Int)+1) ((i+1:Nat):Int) ·) (Ab 2 (mI [0,5,7,8] (hJ1 _ _ (by omega:k-(i+1)<k-i) ⟨i+1,(Ai (Int.tdiv (Ai (w*(Ai (n-(i:Int))))) ((i+1:Nat):Int))),rfl,ω,rfl⟩)))))))
 exact Ab 13 (Bb)
noncomputable def AoV (n:Int) (k:Nat):Value:=Kl 220 [.one .i] [.int n,.int (k:Int)]
theorem Aap (n:Int) (k:Nat) (h0:k<=1000000):AF Tryz.prog 220 [.int n,.int (k:Int)] (.lit (Hh [.one .i] (AoV n k))):=Bi (Alu n k h0)
theorem AgC (l:Ws) (h0:l.n<=1000000):∃r,Fx [.one .i] r/\AF Tryz.prog 181 [Qh l] r:=by
 refine Au func181 rfl ?_
 refine Ab 19 (Vj [3,6,7,8] (λm s=>∃i w,m=l.n-i/\(i<=l.n)/\s=⟨[(3,.int w),(6,Qh l),(7,.int (l.n:Int)),(8,.int (i:Int))],[],0,18⟩) (l.n-0) ⟨0,0,rfl,Nat.zero_le _,κ⟩ ?_)
 rintro _ _ ⟨i,w,rfl,hF,rfl⟩ hJ1
 refine Ab 6 (Hf 9 ((i:Int)<(l.n:Int)) (λhx1 hx1d=>?_) (λhx1 hx1d=>?_))
 exact Ab 7 (gs (Hk i l.n ·) (Ab 8 (Dx (Afp (l.f i)) λv2 hv2=>(gs (Ao hv2 ·) (gs (Ct (.int (max w (gI v2))) .none (Ji (.tmp 12) (.tmp 14) #[3,3] κ w (gI v2) κ κ) ·) (Ab 5 (gs (Db ((i:Int)+1) ((i+1:Nat):Int) ·) (Ab 2 (Ft [3,6,7,8] [] 0 [] trivial (hJ1 _ _ (by omega:l.n-(i+1)<l.n-i) ⟨i+1,(max w (gI v2)),rfl,ω,rfl⟩))))))))))
 exact Ab 13 (Bb)
noncomputable def Am6 (l:Ws):Value:=Kl 181 [.one .i] [Qh l]
theorem qG (l:Ws) (h0:l.n<=1000000):AF Tryz.prog 181 [Qh l] (.lit (Hh [.one .i] (Am6 l))):=Bi (AgC l h0)
instance:Nonempty Ws:=⟨⟨0,λ_=>⟨false,⟨#[]⟩⟩⟩⟩
theorem Ana (p:Ws) (d:Nat) (hp:p.n<=25) (hd:d<=24):∃r,(∃w:Ws,w.n=d+1/\r=Qh w)/\AF Tryz.prog 182 [Qh p,.int (d:Int)] r:=by
 refine Au func182 rfl ?_
 refine Ab 8 (gs (Db ((d:Int)+1) ((d+1:Nat):Int) ·) (gs (Ct (.osl 0 2 (d+1)) (.new 0 (.vec 169 2 (d+1) (λ_=> .lit (Ak 0)))) (Qa 275 (.tmp 9) (.tmp 9) κ underlying275 2 24 (.agg #[.bool false,.string ⟨#[]⟩]) κ κ δ ((d+1:Nat):Int) (d+1) ω κ κ ω ω ω 0 (.lit (Ak 0)) κ) ·) (Ab 12 (gs (Xa 0 169 2 (d+1) (λ_=> .lit (Ak 0)) (λxi=>Fr ((λ_=>⟨false,⟨#[]⟩⟩) xi)) (λx9 hx9=>rw0) ·) (Vj [0,1,5,12,13] (λm s=>∃j g,m=d+1-j/\(j<=d+1)/\s=⟨[(0,Qh p),(1,.int (d:Int)),(5,.osl 0 2 (d+1)),(12,.int ((d+1:Nat):Int)),(13,.int (j:Int))],[(0,.vec 169 2 (d+1) (λxi=>Fr (g xi)))],1,48⟩) (d+1-0) ⟨0,(λ_=>⟨false,⟨#[]⟩⟩),rfl,Nat.zero_le _,κ⟩ ?_)))))
 rintro _ _ ⟨j,g,rfl,hF,rfl⟩ hJ1
 refine Ab 6 (Hf 14 ((j:Int)<((d+1:Nat):Int)) (λhx1 hx1d=>?_) (λhx1 hx1d=>?_))
 refine Ab 17 (Vj [0,1,5,6,7,12,13] (λm s=>∃i q,m=j+1-i/\(i<=j+1)/\s=⟨[(0,Qh p),(1,.int (d:Int)),(5,.osl 0 2 (d+1)),(6,.int (j:Int)),(7,.int (i:Int)),(12,.int ((d+1:Nat):Int)),(13,.int (j:Int))],[(0,.vec 169 2 (d+1) (λxi=>Fr (q xi)))],1,48⟩) (j+1-0) ⟨0,g,rfl,Nat.zero_le _,κ⟩ ?_)
 rintro _ _ ⟨i,q,rfl,hF,rfl⟩ hJ2
 refine Ab 7 (Hf 19 ((i:Int)<=(j:Int)) (λhx2 hx2d=>?_) (λhx2 hx2d=>?_))
 refine Ab 7 (Hf 24 ((i:Int)<(p.n:Int)) (λhx3 hx3d=>?_) (λhx3 hx3d=>?_))
 exact Ab 5 (Dx (Aap ((d-i:Nat):Int) (j-i) ω) λv4 hv4=>(Dx (Ajk (q j) (p.f i) (gI v4)) λv5 hv5=>(gs (Cn [(4,Cv (.osl 0 2 (d+1)) j,.none),(5,Fr (q j),(.read 0)),(8,Cv (Qh p) i,.none),(12,.int ((d-i:Nat):Int),.none),(15,.int ((j-i:Nat):Int),.none),(16,_,.none),(17,_,.none),(18,Cv (.osl 0 2 (d+1)) j,.none),(19,.lit Go.undef,(.set 0 (.vec 169 2 (d+1) (λxi=>if xi=j then .lit (.agg #[.bool (gB (gT v5 0)),.string (gS (gT v5 1))]) else (λxi=>Fr (q xi)) xi))))] [0,1,5,6,7,12,13] ⟨Jg j (d+1),Ef (Bg 169 (.tmp 31) κ isAgg169 2 sizeOf169 0 j κ 169 (d+1) (λxi=>Fr (q xi)) κ ω),Jg i p.n,Ea (.int .i64 (IntKind.wrap .i64 ((d:Int)-(i:Int)))) η,Ea (.int .i64 (IntKind.wrap .i64 ((j:Int)-(i:Int)))) η,Be hv4,Be hv5,Jg j (d+1),Ef (Gk 169 (.tmp 45) (.tmp 44) κ 2 sizeOf169 0 j κ 169 (d+1) (λxi=>Fr (q xi)) κ ω κ κ κ (.lit (.agg #[.bool (gB (gT v5 0)),.string (gS (gT v5 1))])) κ),trivial⟩ ·) (Ab 4 (gs (Db ((i:Int)+1) ((i+1:Nat):Int) ·) (Ab 2 (gs (Xa 0 169 2 (d+1) (λxi=>if xi=j then .lit (.agg #[.bool (gB (gT v5 0)),.string (gS (gT v5 1))]) else (λxi=>Fr (q xi)) xi) (λxi=>Fr ((Aln q j (⟨(gB (gT v5 0)),(gS (gT v5 1))⟩)) xi)) (λx9 hx9=>Alo q j (⟨(gB (gT v5 0)),(gS (gT v5 1))⟩) x9) ·) (mI [0,1,5,6,7,12,13] (hJ2 _ _ (by omega:j+1-(i+1)<j+1-i) ⟨i+1,(Aln q j (⟨(gB (gT v5 0)),(gS (gT v5 1))⟩)),rfl,ω,rfl⟩)))))))))
 exact Ab 8 (gs (Db ((j:Int)+1) ((j+1:Nat):Int) ·) (Ab 2 (mI [0,1,5,12,13] (hJ1 _ _ (by omega:d+1-(j+1)<d+1-j) ⟨j+1,q,rfl,ω,rfl⟩))))
 exact Ab 15 (gs (Db ((j:Int)+1) ((j+1:Nat):Int) ·) (Ab 2 (mI [0,1,5,12,13] (hJ1 _ _ (by omega:d+1-(j+1)<d+1-j) ⟨j+1,q,rfl,ω,rfl⟩))))
 exact Ab 12 (gs (iM 0 [4] 169 2 (d+1) (λxi=>Fr (g xi)) (Ce λ_ _=>rfl) ·) (Ab 1 (Nv ⟨⟨d+1,g⟩,rfl,rfl⟩)))
theorem Aox (p:Ws) (d:Nat) (hp:p.n<=25) (hd:d<=24):∃w:Ws,w.n=d+1/\AF Tryz.prog 182 [Qh p,.int (d:Int)] (Qh w):=by
 obtain⟨r,⟨w,h1,rfl⟩,h2⟩:=Ana p d hp hd
 exact⟨w,h1,h2⟩
theorem Aez (a:Rw):∃r,Fx [.one .i] r/\AF Tryz.prog 176 [Fr a] r:=by
 cases h:Jh a with
 |true=>
  obtain⟨x,hx,ex⟩:=Lj h
  rw[ex]
  exact⟨.int x.sign,rfl,Nf x hx⟩
 |false=>
  refine Au func176 rfl ?_
  exact Ab 10 (gs (Ao (Gi a) ·) (Ab 3 (iA 5 (!Jh a) true (by rw[h];rfl) (Ab 8 (Bb)))))
noncomputable def Alx (a:Rw):Value:=Kl 176 [.one .i] [Fr a]
theorem Io (a:Rw):AF Tryz.prog 176 [Fr a] (.lit (Hh [.one .i] (Alx a))):=Bi (Aez a)
theorem wY (l:Ws) (h0:l.n<=1000000):∃r,Fx [.one .b] r/\AF Tryz.prog 221 [Qh l,.fn 222 []] r:=by
 refine Au func221 rfl ?_
 refine Ab 9 (cE func241 (Ab 14 (Vj [0,1,7,8] (λm s=>∃q,m=l.n-q/\(q<=l.n)/\s=⟨[(0,Qh l),(1,.fn 222 []),(7,.int (l.n:Int)),(8,.int (q:Int))],[],0,19⟩) (l.n-0) ⟨0,rfl,Nat.zero_le _,κ⟩ ?_)))
 rintro _ _ ⟨q,rfl,hF,rfl⟩ hJ1
 refine Ab 6 (Hf 9 ((q:Int)<(l.n:Int)) (λhx2 hx2d=>?_) (λhx2 hx2d=>?_))
 refine Ab 16 (gs (Hk q l.n ·) (Ab 1 (uK func222 (Ab 9 (gs (Ao (Gi (l.f q)) ·) (Ab 5 (Iw (Ab 2 (Eu 16 ?_ ?_)))))))))
 exact Ab 13 (Iw (Ab 5 (Bb)))
 exact Ab 5 (gs (Db ((q:Int)+1) ((q+1:Nat):Int) ·) (Ab 2 (Ft [0,1,7,8] [] 0 [] trivial (hJ1 _ _ (by omega:l.n-(q+1)<l.n-q) ⟨q+1,rfl,ω,rfl⟩))))
 exact Ab 12 (Iw (Ab 5 (Bb)))
noncomputable def AfS (l:Ws):Value:=Kl 221 [.one .b] [Qh l,.fn 222 []]
theorem vP (l:Ws) (h0:l.n<=1000000):AF Tryz.prog 221 [Qh l,.fn 222 []] (.lit (Hh [.one .b] (AfS l))):=Bi (wY l h0)
theorem Ack (l:Ws) (h0:l.n<=1000000):∃r,Fx [.one .b] r/\AF Tryz.prog 183 [Qh l] r:=by
 refine Au func183 rfl ?_
 refine Ab 11 (Hf 6 ((1:Int)<=(l.n:Int)) (λhx1 hx1d=>?_) (λhx1 hx1d=>?_))
 refine Ab 5 (Hf 11 ((l.n:Int)<=25) (λhx2 hx2d=>?_) (λhx2 hx2d=>?_))
 exact Ab 1 (Dx (vP l ω) λv3 hv3=>(gs (Ao hv3 ·) (Ab 6 (Bb))))
 exact Ab 8 (Bb)
 exact Ab 13 (Bb)
noncomputable def Aj7 (l:Ws):Value:=Kl 183 [.one .b] [Qh l]
theorem Ab9 (l:Ws) (h0:l.n<=1000000):AF Tryz.prog 183 [Qh l] (.lit (Hh [.one .b] (Aj7 l))):=Bi (Ack l h0)
theorem Ad9 (l:Ws) (h0:l.n<=1000000):∃r,Fx [.one .b] r/\AF Tryz.prog 174 [Qh l] r:=by
 refine Au func174 rfl ?_
 refine Ab 14 (Vj [0,5,6,7] (λm s=>∃q,m=l.n-q/\(q<=l.n)/\s=⟨[(0,Qh l),(5,Qh l),(6,.int (l.n:Int)),(7,.int (q:Int))],[],0,33⟩) (l.n-0) ⟨0,rfl,Nat.zero_le _,κ⟩ ?_)
 rintro _ _ ⟨q,rfl,hF,rfl⟩ hJ1
 refine Ab 6 (Hf 8 ((q:Int)<(l.n:Int)) (λhx1 hx1d=>?_) (λhx1 hx1d=>?_))
 refine Ab 7 (gs (Hk q l.n ·) (Ab 8 (gs (Ao (Gi (l.f q)) ·) (Ab 3 (Eu 13 ?_ ?_)))))
 exact Ab 12 (Bb)
 exact Ab 5 (gs (Db ((q:Int)+1) ((q+1:Nat):Int) ·) (Ab 2 (Ft [0,5,6,7] [] 0 [] trivial (hJ1 _ _ (by omega:l.n-(q+1)<l.n-q) ⟨q+1,rfl,ω,rfl⟩))))
 refine Ab 12 (Hf 18 ((l.n:Int)<=25) (λhx2 hx2d=>?_) (λhx2 hx2d=>?_))
 refine Ab 4 (Hf 22 ((l.n:Int)=0) (λhx3 hx3d=>?_) (λhx3 hx3d=>?_))
 exact Ab 14 (Bb)
 exact Ab 3 (gs (Db ((l.n:Int)-1) ((l.n-1:Nat):Int) ·) (gs (Hk (l.n-1) l.n ·) (Ab 1 (Dx (Io (l.f (l.n-1))) λv4 hv4=>(gs (Ao hv4 ·) (Ab 7 (Bb)))))))
 exact Ab 18 (Bb)
noncomputable def AkA (l:Ws):Value:=Kl 174 [.one .b] [Qh l]
theorem AbP (l:Ws) (h0:l.n<=1000000):AF Tryz.prog 174 [Qh l] (.lit (Hh [.one .b] (AkA l))):=Bi (Ad9 l h0)
theorem AgW (l:Ws) (g:Bool) (h0:l.n<=1000000):∃r,Fx [.agg [.b,.s,.b,.s]] r/\AF Tryz.prog 184 [.slc 1 1 λ_=>Qh l,.bool g] r:=by
 refine Au func184 rfl ?_
 refine Ab 19 (gs (Ta 1 ·) (Ab 14 (gs (Hk 0 1 ·) (Ab 13 (Vj [1,4,5,6,7,14,15,16,21,22,23] (λm s=>∃(j:Nat) (b:Rr),m=l.n-j/\(j<=l.n)/\s=⟨[(1,.bool g),(4,.ptr 0 0),(5,.ptr 1 0),(6,.int 0),(7,Qh l),(14,.slc 1 1 (λi0=>Qh l)),(15,.int 1),(16,.int 0),(21,Qh l),(22,.int (l.n:Int)),(23,.int (j:Int))],[(0,.box 221 [.bool false,.lit (.string ⟨#[]⟩),.bool false,.lit (.string ⟨#[]⟩)]),(1,.box 221 [.bool b.num.neg,.lit (.string b.num.mag),.bool b.den.neg,.lit (.string b.den.mag)])],2,63⟩) (l.n-0) ⟨0,⟨⟨false,⟨#[]⟩⟩,⟨false,⟨#[]⟩⟩⟩,rfl,Nat.zero_le _,κ⟩ ?_)))))
 rintro _ _ ⟨j,b,rfl,hF,rfl⟩ hJ1
 refine Ab 6 (Hf 24 ((j:Int)<(l.n:Int)) (λhx1 hx1d=>?_) (λhx1 hx1d=>?_))
 refine Ab 8 (gs (Hk j l.n ·) (Ab 7 (Dx (Aap ((l.n-1:Nat):Int) j ω) λv2 hv2=>(Dx (Lz (gI v2)) λv3 hv3=>(Dx (Zm (l.f j) (⟨(gB (gT v3 0)),(gS (gT v3 1))⟩)) λv4 hv4=>(gs (Cn [(3,.int ((l.n-1:Nat):Int),.none),(5,_,.none),(6,_,.none),(7,_,.none)] [1,4,5,6,7,8,10,14,15,16,21,22,23] ⟨Ea (.int .i64 (IntKind.wrap .i64 ((l.n:Int)-1))) η,Be hv2,Be hv3,Be hv4,trivial⟩ ·) (Ab 5 (Dx (Ajl (⟨⟨(gB (gT (gT v4 0) 0)),(gS (gT (gT v4 0) 1))⟩,⟨(gB (gT (gT v4 0) 2)),(gS (gT (gT v4 0) 3))⟩⟩) b) λv5 hv5=>(gs (Ao hv5 ·) (Ab 11 (gs (Db ((0:Int)+(j:Int)) ((0+j:Nat):Int) ·) (Ab 2 (Hf 49 (((0+j:Nat):Int)=0) (λhx6 hx6d=>?_) (λhx6 hx6d=>?_))))))))))))))
 exact Ab 19 (gs (Db ((j:Int)+1) ((j+1:Nat):Int) ·) (Ab 2 (Ft [1,4,5,6,7,14,15,16,21,22,23] [(0,0),(1,1)] 2 [] trivial (hJ1 _ _ (by omega:l.n-(j+1)<l.n-j) ⟨j+1,⟨⟨(gB (gT (gT v4 0) 0)),(gS (gT (gT v4 0) 1))⟩,⟨(gB (gT (gT v4 0) 2)),(gS (gT (gT v4 0) 3))⟩⟩,rfl,ω,rfl⟩))))
 refine Ab 3 (gs (Cy (.bool (!decide (decide ((gI (gT v5 0))<0)=g))) (.bool (!decide (decide ((gI (gT v5 0))<0)=g))) ·) (Ab 1 (Eu 54 ?_ ?_)))
 refine Ab 6 (Eu 58 ?_ ?_)
 exact Ab 8 (gs (Db ((j:Int)+1) ((j+1:Nat):Int) ·) (Ab 2 (Ft [1,4,5,6,7,14,15,16,21,22,23] [(0,0),(1,1)] 2 [] trivial (hJ1 _ _ (by omega:l.n-(j+1)<l.n-j) ⟨j+1,⟨⟨(gB (gT (gT v4 0) 0)),(gS (gT (gT v4 0) 1))⟩,⟨(gB (gT (gT v4 0) 2)),(gS (gT (gT v4 0) 3))⟩⟩,rfl,ω,rfl⟩))))
 exact Ab 5 (gs (Db ((j:Int)+1) ((j+1:Nat):Int) ·) (Ab 2 (Ft [1,4,5,6,7,14,15,16,21,22,23] [(0,0),(1,1)] 2 [] trivial (hJ1 _ _ (by omega:l.n-(j+1)<l.n-j) ⟨j+1,b,rfl,ω,rfl⟩))))
 exact Ab 11 (gs (Db ((j:Int)+1) ((j+1:Nat):Int) ·) (Ab 2 (Ft [1,4,5,6,7,14,15,16,21,22,23] [(0,0),(1,1)] 2 [] trivial (hJ1 _ _ (by omega:l.n-(j+1)<l.n-j) ⟨j+1,b,rfl,ω,rfl⟩))))
 exact Ab 31 (Bb)
noncomputable def AmI (l:Ws) (g:Bool):Value:=Kl 184 [.agg [.b,.s,.b,.s]] [.slc 1 1 λ_=>Qh l,.bool g]
theorem qI (l:Ws) (g:Bool) (h0:l.n<=1000000):AF Tryz.prog 184 [.slc 1 1 λ_=>Qh l,.bool g] (.lit (Hh [.agg [.b,.s,.b,.s]] (AmI l g))):=Bi (AgW l g h0)
theorem Acj (l:Ws) (h0:l.n<=1000000):∃r,Fx [.agg [.b,.s,.b,.s],.agg [.b,.s,.b,.s],.one .i] r/\AF Tryz.prog 132 [Qh l] r:=by
 refine Au func132 rfl ?_
 refine Ab 18 (Dx (Ab9 l ω) λv1 hv1=>(gs (Ao hv1 ·) (Ab 4 (Eu 7 ?_ ?_))))
 exact Ab 2 (gs (Cn [] [2,3,4] trivial ·) (Ab 4 (Bb)))
 refine Ab 4 (Dx (qG l ω) λv2 hv2=>(gs (Ao hv2 ·) (Ab 5 (Eu 13 ?_ ?_))))
 exact Ab 2 (gs (Cn [] [2,3,4] trivial ·) (Ab 4 (Bb)))
 exact Ab 7 (gs (Kf 2 275 1 1 (λ_=>Qh l) ·) (Dx (qI l false ω) λv3 hv3=>(gs (Ct (.lit (.agg #[.bool (gB (gT v3 0)),.string (gS (gT v3 1)),.bool (gB (gT v3 2)),.string (gS (gT v3 3))])) (.drop 2) (Gj 184 #[.tmp 21,(.const (.bool false))] #[278,4] κ (λ_ _=>by kernel_rfl) 2 (.vec 275 1 1 (λ_=>Qh l)) κ (λ_ _ _ _ h=>by cases h;exact(Ce λ_ _=>rfl)) [.osl 2 1 1,.bool false] κ [.slc 1 1 (λ_=>Qh l),.bool false] κ (.lit (.agg #[.bool (gB (gT v3 0)),.string (gS (gT v3 1)),.bool (gB (gT v3 2)),.string (gS (gT v3 3))])) hv3) ·) (Ab 1 (gs (Kf 3 275 1 1 (λ_=>Qh l) ·) (Dx (qI l true ω) λv4 hv4=>(gs (Ct (.lit (.agg #[.bool (gB (gT v4 0)),.string (gS (gT v4 1)),.bool (gB (gT v4 2)),.string (gS (gT v4 3))])) (.drop 3) (Gj 184 #[.tmp 24,(.const (.bool true))] #[278,4] κ (λ_ _=>by kernel_rfl) 3 (.vec 275 1 1 (λ_=>Qh l)) κ (λ_ _ _ _ h=>by cases h;exact(Ce λ_ _=>rfl)) [.osl 3 1 1,.bool true] κ [.slc 1 1 (λ_=>Qh l),.bool true] κ (.lit (.agg #[.bool (gB (gT v4 0)),.string (gS (gT v4 1)),.bool (gB (gT v4 2)),.string (gS (gT v4 3))])) hv4) ·) (Ab 6 (Bb)))))))))
noncomputable def Aj6 (l:Ws):Value:=Kl 132 [.agg [.b,.s,.b,.s],.agg [.b,.s,.b,.s],.one .i] [Qh l]
theorem Ab7 (l:Ws) (h0:l.n<=1000000):AF Tryz.prog 132 [Qh l] (.lit (Hh [.agg [.b,.s,.b,.s],.agg [.b,.s,.b,.s],.one .i] (Aj6 l))):=Bi (Acj l h0)
theorem Ag8 (p:Ws) (d:Nat) (hp:p.n<=25) (hd:d<=1000):∃r,(∃w:Ws×Int,w.1.n<=25/\(r= .tup [Qh w.1,.int w.2]\/r= .lit (.tuple #[.slice none 0 0,.int .i64 w.2])))/\AF Tryz.prog 131 [Qh p,.int (d:Int)] r:=by
 refine Au func131 rfl ?_
 refine Ab 11 (Dx (AbP p ω) λv1 hv1=>(gs (Ao hv1 ·) (Ab 2 (Eu 10 ?_ ?_))))
 exact Ab 20 (Nv ⟨(⟨0,λ_=>⟨false,⟨#[]⟩⟩⟩,2),(by decide:(0:Nat)<=25),.inr rfl⟩)
 refine Ab 4 (iA 14 (decide ((d:Int)<0)) false (decide_eq_false ω) (Ab 6 (Hf 6 ((24:Int)<(d:Int)) (λhx3 hx3d=>?_) (λhx3 hx3d=>?_))))
 exact Ab 10 (Nv ⟨(⟨0,λ_=>⟨false,⟨#[]⟩⟩⟩,2),(by decide:(0:Nat)<=25),.inr rfl⟩)
 refine Ab 6 (gs (λh9=>Cy (.int .i64 (IntKind.wrap .i64 ((p.n:Int)-1))) (.int .i64 ((p.n:Int)-1)) h9 (congrArg (Value.int .i64) (IntWalk.i64_in _ ω))) (Ab 4 (Hf 18 ((d:Int)<(p.n:Int)-1) (λhx4 hx4d=>?_) (λhx4 hx4d=>?_))))
 exact Ab 10 (Nv ⟨(⟨0,λ_=>⟨false,⟨#[]⟩⟩⟩,3),(by decide:(0:Nat)<=25),.inr rfl⟩)
 refine Ab 4 (Dx (qG p ω) λv5 hv5=>(gs (Ao hv5 ·) (Ab 5 (Hf 24 ((65536:Int)<Ai ((gI v5)+30)) (λhx6 hx6d=>?_) (λhx6 hx6d=>?_)))))
 exact Ab 10 (Nv ⟨(⟨0,λ_=>⟨false,⟨#[]⟩⟩⟩,7),(by decide:(0:Nat)<=25),.inr rfl⟩)
 refine Ab 8 (Exists.elim (Aox p d ω ω) λv7 hv7=>?_)
 have hv7n:=hv7.1
 exact gs (Ao hv7.2 ·) (Ab 5 (Nv ⟨(v7,0),by show v7.n<=25;omega,.inl rfl⟩))
theorem AjW (p:Ws) (d:Nat) (h:p.n<=25/\d<=1000):∃w:Ws×Int,w.1.n<=25/\AF Tryz.prog 131 [Qh p,.int (d:Int)] (.tup [Qh w.1,.int w.2]):=by
 obtain⟨r,⟨w,h1,h3⟩,h2⟩:=Ag8 p d h.1 h.2
 rcases h3 with rfl|rfl
 exact⟨w,h1,h2⟩
 refine⟨(⟨0,λ_=>⟨false,⟨#[]⟩⟩⟩,w.2),Nat.zero_le _,wG h2 rfl (λ_ _ _ _ h=>h) λE v h=>?_⟩
 have:=h.lit_inv
 subst this
 exact AoQ (.sl0 _ _ _ _ _) (.lit _ _)
def Kg (n:Nat):Nat->Int
 |0=>1
 |i+1=>(Kg n i*((n:Int)-i)).tdiv (i+1)
theorem dP:∀n,n<25->∀i,i<26->0<=Kg n i/\Kg n i<=3000000:=by decide+kernel
theorem Ai0 {n i:Nat} {w:Int} (hn:n<=24) (hi:i<n) (hw:w=Kg n i):Ai (Int.tdiv (Ai (w*((n-i:Nat):Int))) ((i+1:Nat):Int))=Kg n (i+1):=by
 subst hw
 have h1:=dP n ω i ω
 have h2:=dP n ω (i+1) ω
 have e1:((n-i:Nat):Int)=(n:Int)-i:=by omega
 have e2:((i+1:Nat):Int)=(i:Int)+1:=by omega
 have h3:0<=Kg n i*((n:Int)-i):=Int.mul_nonneg h1.1 ω
 have h4:Kg n i*((n:Int)-i)<=3000000*24:=Int.mul_le_mul h1.2 ω ω δ
 have h5:Kg n (i+1)=(Kg n i*((n:Int)-i)).tdiv (i+1):=rfl
 rw[e1,e2,show Ai (Kg n i*((n:Int)-i))=_ from IntWalk.i64_in _ ω,<-h5]
 exact IntWalk.i64_in _ ω
theorem AnB (n k:Nat) (hn:n<=24) (hk:k<=n):∃r,r=AV.int (Kg n k)/\AF Tryz.prog 220 [.int (n:Int),.int (k:Int)] r:=by
 refine Au func220 rfl ?_
 refine Ab 18 (Vj [0,5,7,8] (λm s=>∃(i:Nat) (w:Int),m=k-i/\(w=Kg n i/\i<=k)/\s=⟨[(0,.int (n:Int)),(5,.int w),(7,.int (k:Int)),(8,.int (i:Int))],[],0,21⟩) (k-0) ⟨0,1,rfl,⟨rfl,Nat.zero_le _⟩,κ⟩ ?_)
 rintro _ _ ⟨i,w,rfl,hF,rfl⟩ hJ1
 refine Ab 6 (Hf 9 ((i:Int)<(k:Int)) (λhx1 hx1d=>?_) (λhx1 hx1d=>?_))
 exact Ab 15 (gs (Db ((n:Int)-(i:Int)) ((n-i:Nat):Int) ·) (Ab 2 (gs (Db ((i:Int)+1) ((i+1:Nat):Int) ·) (gs (AoR (Ai (w*((n-i:Nat):Int))) ((i+1:Nat):Int) ω ·) (Ab 5 (gs (Db ((i:Int)+1) ((i+1:Nat):Int) ·) (Ab 2 (mI [0,5,7,8] (hJ1 _ _ (by omega:k-(i+1)<k-i) ⟨i+1,(Ai (Int.tdiv (Ai (w*((n-i:Nat):Int))) ((i+1:Nat):Int))),rfl,⟨Ai0 hn ω hF.1,ω⟩,rfl⟩)))))))))
 exact Ab 13 (Nv (r:=AV.int w) (by rw[hF.1,show i=k by omega]))
theorem Aff (s w k:Int) (hs:Bn s) (hw:Bn w) (hk:Cg k) (h1:Bn (w*k)) (h2:Bn (s+w*k)):AF Tryz.prog 219 [WA s,WA w,.int k] (WA (s+w*k)):=by
 refine As func219 rfl λB D0 hA0=>?_
 exact Ae 8 (Cn [(2,_,.none),(3,_,.none)] [3,4,6] ⟨Be (Ep k hk.1 hk.2),Be (cV w k hw (Eg hk.1 hk.2) h1),trivial⟩ (Ae 5 (Ao (mY s (w*k) hs h1 h2) (Ae 13 (Cu)))))
theorem qR (n k:Nat) (hn:n<=24) (hk:k<=n):AF Tryz.prog 220 [.int (n:Int),.int (k:Int)] (.int (Kg n k)):=by
 obtain⟨r,rfl,h⟩:=AnB n k hn hk
 exact h
theorem Xb {n k:Nat} (hn:n<=24) (hk:k<=n):Cg (Kg n k):=by
 have:=dP n ω k ω
 exact⟨ω,ω⟩
theorem Abx {n k:Nat} (hn:n<=24) (hk:k<=n):0<Kg n k:=by
 have:∀n,n<25->∀k,k<n+1->0<Kg n k:=by decide+kernel
 exact this n ω k ω
def ofS (p:Nat->Int) (d j:Nat):Nat->Int
 |0=>0
 |i+1=>ofS p d j i+p i*Kg (d-i) (j-i)
def ofC (p:Nat->Int) (m d j:Nat):Int:=ofS p d j (min (j+1) m)
theorem oR {p:Nat->Int} {d j:Nat} (hp:∀i,Bd 1000 (p i)) (hd:d<=24) (hj:j<=d):∀i,i<=j+1->Bd (1063+i) (ofS p d j i)
 |0,_=>Bd.zero _
 |i+1,h=>by
  have w:=Xb (n:=d-i) (k:=j-i) ω ω
  exact(oR hp hd hj i ω).add (((hp i).mul (Bd.int w.1 w.2)).mono ω)
def Sn (g:Nat->Int) (j:Nat) (z:Int):Nat->Int:=λk=>if k=j then z else g k
theorem Alp (g:Nat->Int) (j:Nat) (y z:Int) (k:Nat):(if k=j then WA z else WA (Sn g j y k))=WA (Sn g j z k):=by unfold Sn;by_cases h:k=j<;>simp[h]
theorem Alq (g:Nat->Int) (j:Nat) (k:Nat) (h:g j=0):WA (g k)=WA (Sn g j 0 k):=by unfold Sn;by_cases e:k=j<;>simp[e,h]
def OfJ (p:Nat->Int) (m d j:Nat) (g:Nat->Int):Prop:=∀q,g q=if q<j then ofC p m d q else 0
theorem OfJ.step {p:Nat->Int} {m d j:Nat} {g:Nat->Int} {z:Int} (h:OfJ p m d j g) (hz:z=ofC p m d j):OfJ p m d (j+1) (Sn g j z):=λq=>by
 unfold Sn
 by_cases e:q=j
 subst e;rw[if_pos rfl,if_pos (Nat.lt_succ_self _)];exact hz
 rw[if_neg e,h q]
 by_cases h2:q<j
 rw[if_pos h2,if_pos ω]
 rw[if_neg h2,if_neg ω]
theorem OfJ.zero {p:Nat->Int} {m d j:Nat} {g:Nat->Int} (h:OfJ p m d j g):g j=0:=by rw[h j,if_neg ω]
theorem Aow (p:Nat->Int) (m d:Nat):OfJ p m d 0 (λ_=>0):=λq=>(if_neg (Nat.not_lt_zero q)).symm
theorem An3 (g:Nat->Int) (j:Nat) (z:Int):Sn g j z j=z:=if_pos rfl
theorem Afg (g:Nat->Int) (p:Nat->Int) {d j i:Nat} {z:Int} (hp:∀i,Bd 1000 (p i)) (hd:d<=24) (hj:j<=d) (hi:i<=j) (hz:z=ofS p d j i):AF Tryz.prog 219 [WA (Sn g j z j),WA (p i),.int (Kg (d-i) (j-i))] (WA (z+p i*Kg (d-i) (j-i))):=by
 rw[An3]
 have w:=Xb (n:=d-i) (k:=j-i) ω ω
 have b1:=oR hp hd hj i ω
 have b2:=oR hp hd hj (i+1) ω
 have e:ofS p d j (i+1)=ofS p d j i+p i*Kg (d-i) (j-i):=rfl
 rw[e] at b2
 subst hz
 exact Aff _ _ _ (b1.fit ω) ((hp i).fit ω) w (((hp i).mul (Bd.int w.1 w.2)).fit ω) (b2.fit ω)
theorem ApC (L:Nat) (p:Nat->Int) (d:Nat) (hm:L<=25) (hp:∀i,Bd 1000 (p i)) (hd:d<=24):∃r,(∃g,OfJ p L d (d+1) g/\r= .sl 2 (d+1) λi=>WA (g i))/\AF Tryz.prog 182 [Di L p,.int (d:Int)] r:=by
 refine Au func182 rfl ?_
 refine Ab 8 (gs (Db ((d:Int)+1) ((d+1:Nat):Int) ·) (gs (Ct (.osl 0 2 (d+1)) (.new 0 (.vec 169 2 (d+1) (λ_=> .lit (Ak 0)))) (Qa 275 (.tmp 9) (.tmp 9) κ underlying275 2 24 (.agg #[.bool false,.string ⟨#[]⟩]) κ κ δ ((d+1:Nat):Int) (d+1) ω κ κ ω ω ω 0 (.lit (Ak 0)) κ) ·) (Ab 12 (gs (Xa 0 169 2 (d+1) (λ_=> .lit (Ak 0)) (λxi=>WA ((λ_=>0) xi)) (λx9 hx9=>rfl) ·) (Vj [0,1,5,12,13] (λm s=>∃(j:Nat) (g:Nat->Int),m=d+1-j/\(OfJ p L d j g/\j<=d+1)/\s=⟨[(0,Di L p),(1,.int (d:Int)),(5,.osl 0 2 (d+1)),(12,.int ((d+1:Nat):Int)),(13,.int (j:Int))],[(0,.vec 169 2 (d+1) (λxi=>WA (g xi)))],1,48⟩) (d+1-0) ⟨0,(λ_=>0),rfl,⟨Aow p L d,Nat.zero_le _⟩,κ⟩ ?_)))))
 rintro _ _ ⟨j,g,rfl,hF,rfl⟩ hJ1
 have hO:=hF
 refine Ab 6 (Hf 14 ((j:Int)<((d+1:Nat):Int)) (λhx1 hx1d=>?_) (λhx1 hx1d=>?_))
 refine Ab 17 (gs (Xa 0 169 2 (d+1) (λxi=>WA (g xi)) (λxi=>WA (Sn g j 0 xi)) (λx9 hx9=>Alq g j x9 hF.1.zero) ·) (Vj [0,1,5,6,7,12,13] (λm s=>∃(i:Nat) (z:Int),m=j+1-i/\(z=ofS p d j i/\i<=j+1/\i<=L)/\s=⟨[(0,Di L p),(1,.int (d:Int)),(5,.osl 0 2 (d+1)),(6,.int (j:Int)),(7,.int (i:Int)),(12,.int ((d+1:Nat):Int)),(13,.int (j:Int))],[(0,.vec 169 2 (d+1) (λxi=>WA (Sn g j z xi)))],1,48⟩) (j+1-0) ⟨0,0,rfl,⟨rfl,Nat.zero_le _,Nat.zero_le _⟩,κ⟩ ?_))
 rintro _ _ ⟨i,z,rfl,hF,rfl⟩ hJ2
 refine Ab 7 (Hf 19 ((i:Int)<=(j:Int)) (λhx2 hx2d=>?_) (λhx2 hx2d=>?_))
 refine Ab 7 (Hf 24 ((i:Int)<(L:Int)) (λhx3 hx3d=>?_) (λhx3 hx3d=>?_))
 exact Ab 5 (gs (Cn [(4,Cv (.osl 0 2 (d+1)) j,.none),(5,.lit (Ak (Sn g j z j)),(.read 0)),(8,Cv (Di L p) i,.none),(12,.int ((d-i:Nat):Int),.none),(15,.int ((j-i:Nat):Int),.none),(16,_,.none),(17,_,.none),(18,Cv (.osl 0 2 (d+1)) j,.none),(19,.lit Go.undef,(.set 0 (.vec 169 2 (d+1) (λxi=>if xi=j then .lit (Ak (z+p i*Kg (d-i) (j-i))) else (λxi=>WA (Sn g j z xi)) xi))))] [0,1,5,6,7,12,13] ⟨Jg j (d+1),Ef (Bg 169 (.tmp 31) κ isAgg169 2 sizeOf169 0 j κ 169 (d+1) (λxi=>WA (Sn g j z xi)) κ ω),Jg i L,Ea (.int .i64 (IntKind.wrap .i64 ((d:Int)-(i:Int)))) η,Ea (.int .i64 (IntKind.wrap .i64 ((j:Int)-(i:Int)))) η,Be (qR (d-i) (j-i) ω ω),Be (Afg g p (d:=d) (j:=j) (i:=i) (z:=z) hp hd ω ω hF.1),Jg j (d+1),Ef (Gk 169 (.tmp 45) (.tmp 44) κ 2 sizeOf169 0 j κ 169 (d+1) (λxi=>WA (Sn g j z xi)) κ ω κ κ κ (.lit (Ak (z+p i*Kg (d-i) (j-i)))) κ),trivial⟩ ·) (Ab 4 (gs (Db ((i:Int)+1) ((i+1:Nat):Int) ·) (Ab 2 (gs (Xa 0 169 2 (d+1) (λxi=>if xi=j then .lit (Ak (z+p i*Kg (d-i) (j-i))) else (λxi=>WA (Sn g j z xi)) xi) (λxi=>WA (Sn g j (z+p i*Kg (d-i) (j-i)) xi)) (λx9 hx9=>Alp g j z (z+p i*Kg (d-i) (j-i)) x9) ·) (mI [0,1,5,6,7,12,13] (hJ2 _ _ (by omega:j+1-(i+1)<j+1-i) ⟨i+1,z+p i*Kg (d-i) (j-i),rfl,⟨by rw[hF.1];rfl,ω,ω⟩,rfl⟩)))))))
 exact Ab 8 (gs (Db ((j:Int)+1) ((j+1:Nat):Int) ·) (Ab 2 (mI [0,1,5,12,13] (hJ1 _ _ (by omega:d+1-(j+1)<d+1-j) ⟨j+1,Sn g j z,rfl,⟨hO.1.step (z:=z) (by rw[hF.1];unfold ofC;congr 1;omega),ω⟩,rfl⟩))))
 exact Ab 15 (gs (Db ((j:Int)+1) ((j+1:Nat):Int) ·) (Ab 2 (mI [0,1,5,12,13] (hJ1 _ _ (by omega:d+1-(j+1)<d+1-j) ⟨j+1,Sn g j z,rfl,⟨hO.1.step (z:=z) (by rw[hF.1];unfold ofC;congr 1;omega),ω⟩,rfl⟩))))
 exact Ab 12 (gs (iM 0 [4] 169 2 (d+1) (λxi=>WA (g xi)) (Ce λ_ _=>rfl) ·) (Ab 1 (Nv (r:= .sl 2 (d+1) λi=>WA (g i)) ⟨g,by rw[show d+1=j by omega];exact hF.1,rfl⟩)))
def Akg (x y:Int):Int×Int:=(x/Tw x y,y/Tw x y)
def Anf (b r:Int×Int):Int:=(r.1*b.2-b.1*r.2).sign
def Gh (c:Nat->Int) (n j:Nat):Int×Int:=Akg (c j) (Kg (n-1) j)
def Qg (g:Bool) (c:Nat->Int) (n:Nat):Nat->Int×Int
 |0=>(0,0)
 |j+1=>if j=0 then Gh c n j else if decide (Anf (Qg g c n j) (Gh c n j)<0)=g then Qg g c n j else if Anf (Qg g c n j) (Gh c n j)=0 then Qg g c n j else Gh c n j
def Yr (g:Bool) (c:Nat->Int) (n j:Nat):Int:=if j=0 then 0 else Anf (Qg g c n j) (Gh c n j)
def Aby:Rr:=⟨⟨false,⟨#[]⟩⟩,⟨false,⟨#[]⟩⟩⟩
def kI (g:Bool) (c:Nat->Int) (n j:Nat) (b:Rr):Prop:=(j=0/\b=Aby)\/(0<j/\Cp b=Ir (Qg g c n j).1 (Qg g c n j).2)
theorem rF {g:Bool} {c:Nat->Int} {n j:Nat} (h:Qg g c n (j+1)=Gh c n j):kI g c n (j+1) ⟨⟨decide ((Gh c n j).1<0),Cj (Gh c n j).1.natAbs⟩,⟨decide ((Gh c n j).2<0),Cj (Gh c n j).2.natAbs⟩⟩:= .inr ⟨Nat.succ_pos _,by rw[h]⟩
theorem rG {g:Bool} {c:Nat->Int} {n j:Nat} {b:Rr} (hb:kI g c n j b) (hj:¬j=0) (h:Qg g c n (j+1)=Qg g c n j):kI g c n (j+1) b:=by
 rcases hb with⟨h0,_⟩|⟨_,h2⟩
 exact absurd h0 hj
 exact .inr ⟨Nat.succ_pos _,by rw[h];exact h2⟩
theorem AmN {g:Bool} {c:Nat->Int} {n j:Nat} (h:j=0):Qg g c n (j+1)=Gh c n j:=by unfold Qg;rw[if_pos h]
theorem Ap4 {g:Bool} {c:Nat->Int} {n j:Nat} (h:¬j=0) (ha:decide (Yr g c n j<0)=g):Qg g c n (j+1)=Qg g c n j:=by
 unfold Yr at ha;rw[if_neg h] at ha
 rw[Qg,if_neg h,if_pos ha]
theorem Ap5 {g:Bool} {c:Nat->Int} {n j:Nat} (h:¬j=0) (ha:Yr g c n j=0):Qg g c n (j+1)=Qg g c n j:=by
 unfold Yr at ha;rw[if_neg h] at ha
 rw[Qg,if_neg h,if_pos ha,ite_self]
theorem Ap6 {g:Bool} {c:Nat->Int} {n j:Nat} (h:¬j=0) (ha:¬decide (Yr g c n j<0)=g) (hb:¬Yr g c n j=0):Qg g c n (j+1)=Gh c n j:=by
 unfold Yr at ha hb;rw[if_neg h] at ha hb
 rw[Qg,if_neg h,if_neg ha,if_neg hb]
theorem Wq {x y:Int} (hx:Bn x) (hy:Bn y) (hp:0<y):Bn (Akg x y).1/\Bn (Akg x y).2/\0<(Akg x y).2:=by
 have hd:Tw x y∣y:=by
  have h1:(Nat.gcd x.natAbs y.natAbs)∣y.natAbs:=Nat.gcd_dvd_right _ _
  exact Int.ofNat_dvd_left.2 h1
 exact⟨Rt hx,Rt hy,Int.ediv_pos_of_pos_of_dvd hp (Int.natCast_nonneg _) hd⟩
theorem Abr {c:Nat->Int} {n j:Nat} (hc:∀q,Bn (c q)) (hn:n<=25) (hj:j<n):Bn (Gh c n j).1/\Bn (Gh c n j).2/\0<(Gh c n j).2:=by
 have w:=Xb (n:=n-1) (k:=j) ω ω
 exact Wq (hc j) (Eg w.1 w.2) (Abx ω ω)
theorem AaQ {g:Bool} {c:Nat->Int} {n:Nat} (hc:∀q,Bn (c q)) (hn:n<=25):∀j,0<j->j<=n->Bn (Qg g c n j).1/\Bn (Qg g c n j).2/\0<(Qg g c n j).2
 |0,h,_=>absurd h (Nat.lt_irrefl 0)
 |j+1,_,h=>by
  have ht:=Abr hc hn (j:=j) ω
  by_cases h0:j=0
  rw[AmN h0];exact ht
  have ih:=AaQ (g:=g) hc hn j ω ω
  rw[Qg,if_neg h0]
  split
  exact ih
  split
  exact ih
  exact ht
theorem AdC (x y:Int) (b:Rr) (hb:Ug b=false):∃r,r=AV.lit (.tuple #[.int .i64 0,.int .i64 2])/\AF Tryz.prog 142 [Ir x y,Cp b] r:=by
 have hq:(Ug ⟨⟨decide (x<0),Cj x.natAbs⟩,⟨decide (y<0),Cj y.natAbs⟩⟩&&Ug b)=false:=by rw[hb,Bool.and_false]
 refine Au func142 rfl ?_
 exact Ab 13 (gs (Ao (Xf ⟨⟨decide (x<0),Cj x.natAbs⟩,⟨decide (y<0),Cj y.natAbs⟩⟩ b) ·) (Ab 3 (iA 12 (!(Ug ⟨⟨decide (x<0),Cj x.natAbs⟩,⟨decide (y<0),Cj y.natAbs⟩⟩&&Ug b)) true (by rw[hq];rfl) (Ab 9 (Nv (r:= .lit (.tuple #[.int .i64 0,.int .i64 2])) rfl)))))
theorem Ahz:Ug Aby=false:=Gc λ⟨x,y,_,_,hp,e⟩=>by
 have h:=AV.lit.inj e
 unfold Aby at h
 simp only[Value.agg.injEq,Array.mk.injEq,List.cons.injEq,Value.bool.injEq,Value.string.injEq,and_true] at h
 have h3:=wW (n:=y.natAbs) ω
 rw[<-h.2.2.2] at h3
 exact absurd h3 (by simp)
theorem AiW (g:Bool) (c:Nat->Int) (n j:Nat) (b:Rr) (hc:∀q,Bn (c q)) (hn:n<=25) (hj:j<n) (hb:kI g c n j b):AF Tryz.prog 142 [Ir (Gh c n j).1 (Gh c n j).2,Cp b] (.lit (.tuple #[.int .i64 (Yr g c n j),.int .i64 (if j=0 then 2 else 0)])):=by
 have ht:=Abr hc hn hj
 rcases hb with⟨h0,rfl⟩|⟨h0,h1⟩
 obtain⟨r,rfl,h⟩:=AdC (Gh c n j).1 (Gh c n j).2 Aby Ahz
 unfold Yr
 rw[if_pos h0,if_pos h0]
 exact h
 have hl:=AaQ (g:=g) hc hn j h0 ω
 unfold Yr
 rw[h1,if_neg ω,if_neg ω]
 exact Afh _ _ _ _ ht.1 ht.2.1 hl.1 hl.2.1 ht.2.2 hl.2.2
theorem Akb (n:Nat) (c:Nat->Int) (g:Bool) (hn:n<=25) (hc:∀q,Bn (c q)):∃r,(∃b,kI g c n n b/\r=Cp b)/\AF Tryz.prog 184 [.slc 1 1 λ_=>Di n c,.bool g] r:=by
 refine Au func184 rfl ?_
 refine Ab 19 (gs (Ta 1 ·) (Ab 14 (gs (Hk 0 1 ·) (Ab 13 (Vj [1,4,5,6,7,14,15,16,21,22,23] (λm s=>∃(j:Nat) (b:Rr),m=n-j/\(kI g c n j b/\j<=n)/\s=⟨[(1,.bool g),(4,.ptr 0 0),(5,.ptr 1 0),(6,.int 0),(7,Di n c),(14,.slc 1 1 (λi0=>Di n c)),(15,.int 1),(16,.int 0),(21,Di n c),(22,.int (n:Int)),(23,.int (j:Int))],[(0,.box 221 [.bool false,.lit (.string ⟨#[]⟩),.bool false,.lit (.string ⟨#[]⟩)]),(1,.box 221 [.bool b.num.neg,.lit (.string b.num.mag),.bool b.den.neg,.lit (.string b.den.mag)])],2,63⟩) (n-0) ⟨0,⟨⟨false,⟨#[]⟩⟩,⟨false,⟨#[]⟩⟩⟩,rfl,⟨.inl ⟨rfl,rfl⟩,Nat.zero_le _⟩,κ⟩ ?_)))))
 rintro _ _ ⟨j,b,rfl,hF,rfl⟩ hJ1
 refine Ab 6 (Hf 24 ((j:Int)<(n:Int)) (λhx1 hx1d=>?_) (λhx1 hx1d=>?_))
 refine Ab 8 (gs (Hk j n ·) (Ab 7 (gs (Cn [(3,.int ((n-1:Nat):Int),.none),(5,_,.none),(6,_,.none),(7,_,.none)] [1,4,5,6,7,8,10,14,15,16,21,22,23] ⟨Ea (.int .i64 (IntKind.wrap .i64 ((n:Int)-1))) η,Be (qR (n-1) j ω ω),Be (Ep (Kg (n-1) j) (Xb ω ω).1 (Xb ω ω).2),Be (Wf (c j) (Kg (n-1) j) (hc j) (Eg (Xb ω ω).1 (Xb ω ω).2) (Abx ω ω)),trivial⟩ ·) (Ab 5 (gs (Ao (AiW g c n j b hc hn ω hF.1) ·) (Ab 11 (gs (Db ((0:Int)+(j:Int)) ((0+j:Nat):Int) ·) (Ab 2 (Hf 49 (((0+j:Nat):Int)=0) (λhx2 hx2d=>?_) (λhx2 hx2d=>?_))))))))))
 exact Ab 19 (gs (Db ((j:Int)+1) ((j+1:Nat):Int) ·) (Ab 2 (Ft [1,4,5,6,7,14,15,16,21,22,23] [(0,0),(1,1)] 2 [] trivial (hJ1 _ _ (by omega:n-(j+1)<n-j) ⟨j+1,⟨⟨decide ((Gh c n j).1<0),Cj ((Gh c n j).1).natAbs⟩,⟨decide ((Gh c n j).2<0),Cj ((Gh c n j).2).natAbs⟩⟩,rfl,⟨rF (AmN ω),ω⟩,rfl⟩))))
 refine Ab 3 (gs (Cy (.bool (!decide (decide ((Yr g c n j)<0)=g))) (.bool (!decide (decide ((Yr g c n j)<0)=g))) ·) (Ab 1 (Aii 54 (decide ((Yr g c n j)<0)=g) (λhx3 hx3d=>?_) (λhx3 hx3d=>?_))))
 exact Ab 11 (gs (Db ((j:Int)+1) ((j+1:Nat):Int) ·) (Ab 2 (Ft [1,4,5,6,7,14,15,16,21,22,23] [(0,0),(1,1)] 2 [] trivial (hJ1 _ _ (by omega:n-(j+1)<n-j) ⟨j+1,b,rfl,⟨rG hF.1 ω (Ap4 ω hx3d),ω⟩,rfl⟩))))
 refine Ab 6 (Aii 58 ((Yr g c n j)=0) (λhx4 hx4d=>?_) (λhx4 hx4d=>?_))
 exact Ab 5 (gs (Db ((j:Int)+1) ((j+1:Nat):Int) ·) (Ab 2 (Ft [1,4,5,6,7,14,15,16,21,22,23] [(0,0),(1,1)] 2 [] trivial (hJ1 _ _ (by omega:n-(j+1)<n-j) ⟨j+1,b,rfl,⟨rG hF.1 ω (Ap5 ω hx4d),ω⟩,rfl⟩))))
 exact Ab 8 (gs (Db ((j:Int)+1) ((j+1:Nat):Int) ·) (Ab 2 (Ft [1,4,5,6,7,14,15,16,21,22,23] [(0,0),(1,1)] 2 [] trivial (hJ1 _ _ (by omega:n-(j+1)<n-j) ⟨j+1,⟨⟨decide ((Gh c n j).1<0),Cj ((Gh c n j).1).natAbs⟩,⟨decide ((Gh c n j).2<0),Cj ((Gh c n j).2).natAbs⟩⟩,rfl,⟨rF (Ap6 ω hx3d hx4d),ω⟩,rfl⟩))))
 exact Ab 31 (Nv (r:=Cp b) ⟨b,(show j=n by omega)▸hF.1,rfl⟩)
def ofZ (p:Nat->Int) (L d:Nat):Nat->Int:=λq=>if q<d+1 then ofC p L d q else 0
theorem AlR (L:Nat) (p:Nat->Int) (d:Nat) (hm:L<=25) (hp:∀i,Bd 1000 (p i)) (hd:d<=24):AF Tryz.prog 182 [Di L p,.int (d:Int)] (Di (d+1) (ofZ p L d)):=by
 obtain⟨r,⟨g,h1,rfl⟩,h⟩:=ApC L p d hm hp hd
 have e:g=ofZ p L d:=funext h1
 rw[e] at h
 exact h
theorem AmZ {p:Nat->Int} {L d:Nat} (hp:∀i,Bd 1000 (p i)) (hd:d<=24) (q:Nat):Bd 1100 (ofZ p L d q):=by
 unfold ofZ
 split
 exact(oR hp hd ω _ (Nat.min_le_left _ _)).mono (by have:=Nat.min_le_left (q+1) L;omega)
 exact Bd.zero _
theorem kA (n:Nat) (c:Nat->Int) (g:Bool) (hn:n<=25) (h0:0<n) (hc:∀q,Bn (c q)):AF Tryz.prog 184 [.slc 1 1 λ_=>Di n c,.bool g] (Ir (Qg g c n n).1 (Qg g c n n).2):=by
 obtain⟨r,⟨b,h1,rfl⟩,h⟩:=Akb n c g hn hc
 rcases h1 with⟨h2,_⟩|⟨_,h2⟩
 omega
 rw[h2] at h;exact h
abbrev AlA (x y:Int):Value:= .agg #[.bool (decide (x<0)),.string (Cj x.natAbs),.bool (decide (y<0)),.string (Cj y.natAbs)]
theorem AfI {e:Nat} {z:Int} (h:Bd e z):bitLen z.natAbs<=e+1:=Fh.2 (Nat.lt_of_le_of_lt h.le (Nat.pow_lt_pow_right δ (Nat.lt_succ_self e)))
theorem vO (n:Nat) (c:Nat->Int) (hn:n<=25) (hc:∀q,Bn (c q)):AF Tryz.prog 221 [Di n c,.fn 222 []] (.bool false):=by
 refine As func221 rfl λB D0 hA0=>?_
 refine Ae 9 (Als 0 func241 (λ_ hD1=>?_))
 refine Ae 14 (cI [0,1,7,8] n (λq=>True) (λq=>⟨[(0,Di n c),(1,.fn 222 []),(7,.int (n:Int)),(8,.int (q:Int))],[],0,19⟩) trivial (λq hqn hFq J1 hJ1=>?_))
 refine Ae 6 (Hu 9 ((q:Int)<(n:Int)) (λhx2 hx2d=>?_) (λhx2 hx2d=>?_))
 ·
  refine Ae 16 (Hk q n (Ae 1 (mM 0 func222 (λ_ hD3=>?_))))
  exact Ae 9 (Ao (Ed (c q) (hc q)) (Ae 5 (vrI (Ae 7 (Db ((q:Int)+1) ((q+1:Nat):Int) (Ae 2 (Ob [0,1,7,8] [] 0 0 hD1 [] trivial (hJ1 ω trivial))))))))
 ·
  exact Ae 12 (vrI (Ae 5 (Cu)))
theorem vQ (n:Nat) (c:Nat->Int) (hn:n<=25) (h0:0<n) (hc:∀q,Bn (c q)):AF Tryz.prog 183 [Di n c] (.bool true):=by
 refine As func183 rfl λB D0 hA0=>?_
 exact Ae 11 (Jk 6 (decide ((1:Int)<=(n:Int))) true (decide_eq_true ω) (Ae 5 (Jk 11 (decide ((n:Int)<=25)) true (decide_eq_true ω) (Ae 1 (Ao (vO n c hn hc) (Ae 6 (Cu)))))))
theorem jX (n:Nat) (c:Nat->Int) (hn:n<=1000000) (hc:∀i,i<n->Bn (c i)):AF Tryz.prog 181 [Di n c] (.int (Dm c n)):=by
 refine As func181 rfl λB D0 hA0=>?_
 refine Ae 19 (cI [3,6,7,8] n (λi=>True) (λi=>⟨[(3,.int (Dm c i)),(6,Di n c),(7,.int (n:Int)),(8,.int (i:Int))],[],0,18⟩) trivial (λi hin hFi J1 hJ1=>?_))
 refine Ae 6 (Hu 9 ((i:Int)<(n:Int)) (λhx1 hx1d=>?_) (λhx1 hx1d=>?_))
 ·
  exact Ae 7 (Hk i n (Ae 8 (Ao (mZ (c i) (hc i ω)) (Ct (.int (max (Dm c i) (bitLen (c i).natAbs:Int))) .none (Ji (.tmp 12) (.tmp 14) #[3,3] κ (Dm c i) (bitLen (c i).natAbs:Int) κ κ) (Ae 5 (Db ((i:Int)+1) ((i+1:Nat):Int) (Ae 2 (Ob [3,6,7,8] [] 0 0 hA0 [] trivial (hJ1 ω trivial)))))))))
 ·
  exact Ae 13 (Fd (.int (Dm c i)) (congrArg (λz=>AV.int (Dm c z)) (show _=n by omega)))
theorem AeR (L:Nat) (p:Nat->Int) (d:Nat) (hp:∀i,Bd 1000 (p i)) (hl:L=0\/p (L-1)≠0) (hL:L<=d+1) (hd:d<=24):AF Tryz.prog 131 [Di L p,.int (d:Int)] (.tup [Di (d+1) (ofZ p L d),.int 0]):=by
 have hs:=Za (c:=p) (k:=1001) L (λi _=>AfI (hp i))
 refine As func131 rfl λB D0 hA0=>?_
 exact Ae 11 (Ao (Re L p ω (λi _=>(hp i).fit δ) hl) (Ae 6 (Jk 14 (decide ((d:Int)<0)) false (decide_eq_false ω) (Ae 6 (Jk 6 (decide ((24:Int)<(d:Int))) false (decide_eq_false ω) (Ae 6 (Db ((L:Int)-1) ((L:Int)-1) (Ae 4 (Jk 18 (decide ((d:Int)<(L:Int)-1)) false (decide_eq_false ω) (Ae 4 (Ao (jX L p ω (λi _=>(hp i).fit δ)) (Db ((Dm p L)+30) ((Dm p L)+30) (Ae 4 (Jk 24 (decide ((65536:Int)<(Dm p L)+30)) false (decide_eq_false ω) (Ae 8 (Ao (AlR L p d ω hp hd) (Ae 5 (Cu))))))))))))))))))
theorem vN (n:Nat) (c:Nat->Int) (hn:n<=25) (h0:0<n) (hc:∀q,Bd 1100 (c q)):AF Tryz.prog 132 [Di n c] (.lit (.tuple #[AlA (Qg false c n n).1 (Qg false c n n).2,AlA (Qg true c n n).1 (Qg true c n n).2,.int .i64 0])):=by
 have hs:=Za (c:=c) (k:=1101) n (λi _=>AfI (hc i))
 refine As func132 rfl λB D0 hA0=>?_
 refine Ae 18 (Ao (vQ n c hn h0 (λq=>(hc q).fit δ)) (Ae 8 (Ao (jX n c ω (λi _=>(hc i).fit δ)) (Db ((Dm c n)+30) ((Dm c n)+30) (Ae 4 (Jk 13 (decide ((65536:Int)<(Dm c n)+30)) false (decide_eq_false ω) (Ae 7 (Kf 2 275 1 1 (λ_=>Di n c) ?_))))))))
 refine Ct (Ir ((Qg false c n n).1) ((Qg false c n n).2)) (.drop 2) (Gj 184 #[.tmp 21,(.const (.bool false))] #[278,4] κ (λ_ _=>by kernel_rfl) 2 (.vec 275 1 1 (λ_=>Di n c)) κ (λ_ _ _ _ h=>by cases h;exact(Ce λ_ _=>rfl)) [.osl 2 1 1,.bool false] κ [.slc 1 1 (λ_=>Di n c),.bool false] κ (Ir ((Qg false c n n).1) ((Qg false c n n).2)) (kA n c false hn h0 (λq=>(hc q).fit δ))) (Ae 1 (Kf 3 275 1 1 (λ_=>Di n c) ?_))
 exact Ct (Ir ((Qg true c n n).1) ((Qg true c n n).2)) (.drop 3) (Gj 184 #[.tmp 24,(.const (.bool true))] #[278,4] κ (λ_ _=>by kernel_rfl) 3 (.vec 275 1 1 (λ_=>Di n c)) κ (λ_ _ _ _ h=>by cases h;exact(Ce λ_ _=>rfl)) [.osl 3 1 1,.bool true] κ [.slc 1 1 (λ_=>Di n c),.bool true] κ (Ir ((Qg true c n n).1) ((Qg true c n n).2)) (kA n c true hn h0 (λq=>(hc q).fit δ))) (Ae 6 (Cu))
def Zp (l:List Int) (d k:Nat):Prop:=0<l.length/\l.length<=6/\(∀i,Cg (l.getD i 0))/\d<=8/\k<2^d
theorem Ank {d:Nat} (h:d<=8):2^d<=256:=Nat.le_trans (Nat.pow_le_pow_right δ h) δ
theorem AoI {d:Nat} (h:d<=8):IntKind.wrap .i64 (1*2^min (d:Int).toNat 64)=((2^d:Nat):Int):=by
 match d,h with
 |0,_|1,_|2,_|3,_|4,_|5,_|6,_|7,_|8,_=>decide
theorem AdO (n:Rw) (q:Rr):∃r,Fx [.agg [.b,.s]] r/\AF Tryz.prog 134 [Fr n,Cp q] r:=by
 refine Au func134 rfl ?_
 exact Ab 12 (Dx (eD n q.den) λv1 hv1=>(gs (Ao hv1 ·) (Ab 15 (Bb))))
noncomputable def AkQ (n:Rw) (q:Rr):Value:=Kl 134 [.agg [.b,.s]] [Fr n,Cp q]
theorem kF (n:Rw) (q:Rr):AF Tryz.prog 134 [Fr n,Cp q] (.lit (Hh [.agg [.b,.s]] (AkQ n q))):=Bi (AdO n q)
theorem AcU (q:Rr):∃r,Fx [.one .i] r/\AF Tryz.prog 136 [Cp q] r:=by
 refine Au func136 rfl ?_
 exact Ab 9 (Dx (AbQ q) λv1 hv1=>(gs (Ao hv1 ·) (Ab 11 (Dx (Afo (⟨(gB (gT (gT v1 0) 0)),(gS (gT (gT v1 0) 1))⟩)) λv2 hv2=>(gs (Ao hv2 ·) (Ab 14 (Bb)))))))
noncomputable def Aka (q:Rr):Value:=Kl 136 [.one .i] [Cp q]
theorem jZ (q:Rr):AF Tryz.prog 136 [Cp q] (.lit (Hh [.one .i] (Aka q))):=Bi (AcU q)
theorem AgQ (l:List Int) (o:Int) (d:Nat) (k:Nat) (h0:Zp l d k):∃r,Fx [.one .i,.one .i] r/\AF Tryz.prog 103 [Aw l,.int o,.int (d:Int),.int (k:Int)] r:=by
 have hn1:=h0.1
 have hn2:=h0.2.1
 have hd8:=h0.2.2.2.1
 have hk:=h0.2.2.2.2
 have hp:=Ank hd8
 have hp0:=Nat.two_pow_pos d
 have ho:ocN l<=l.length:=Nw (nN l) l.length
 have ho2:Gz (oc1 l (k:Int) 1 ((2^d:Nat):Int)) (ocN l)<=ocN l:=Nw _ _
 have hn25:Gz (oc1 l (k:Int) 1 ((2^d:Nat):Int)) (ocN l)<=25/\l.length-1<=1000:=⟨ω,ω⟩
 refine Au func103 rfl ?_
 refine Ab 9 (gs (Ao (kE l h0.1 ω h0.2.2.1) ·) (Ab 8 (gs (Cn [(2,_,.none),(3,_,.none),(5,.int ((2^d:Nat):Int),.none),(6,_,.none),(7,_,.none)] [0,1,2,10] ⟨Be (Ep (k:Int) ω ω),Be (Ep 1 ω ω),Ea (.int .i64 (IntKind.wrap .i64 (1*2^min (d:Int).toNat 64))) (congrArg (Value.int .i64) (AoI h0.2.2.2.1)),Be (Ep ((2^d:Nat):Int) ω ω),Be (dS (ocN l) (nN l) (k:Int) 1 ((2^d:Nat):Int) ω h0.2.2.1 (Sl _ _) ⟨ω,ω⟩ ⟨δ,δ⟩ ⟨ω,ω⟩ ω),trivial⟩ ·) (Ab 6 (gs (Db ((l.length:Int)-1) ((l.length-1:Nat):Int) ·) (Exists.elim (AjW (wsZ (Gz (oc1 l (k:Int) 1 ((2^d:Nat):Int)) (ocN l)) (oc1 l (k:Int) 1 ((2^d:Nat):Int))) (l.length-1) (by first|omega|exact hn25)) λv1 hv1=>?_))))))
 have hv1n:=hv1.1
 exact gs (Ao hv1.2 ·) (Ab 10 (Dx (Ab7 v1.1 ω) λv2 hv2=>(gs (Ao hv2 ·) (Ab 14 (Dx (Lz o) λv3 hv3=>(gs (Ao hv3 ·) (Ab 3 (gs (Db ((l.length:Int)-1) ((l.length-1:Nat):Int) ·) (Ab 1 (Dx (wH (⟨(gB (gT v3 0)),(gS (gT v3 1))⟩) (Ai ((d:Int)*((l.length-1:Nat):Int)))) λv4 hv4=>(gs (Ao hv4 ·) (Ab 12 (Dx (kF (⟨(gB (gT (gT v4 0) 0)),(gS (gT (gT v4 0) 1))⟩) (⟨⟨(gB (gT (gT v2 0) 0)),(gS (gT (gT v2 0) 1))⟩,⟨(gB (gT (gT v2 0) 2)),(gS (gT (gT v2 0) 3))⟩⟩)) λv5 hv5=>(gs (Ao hv5 ·) (Ab 8 (Dx (Zm (⟨(gB (gT (gT v2 0) 0)),(gS (gT (gT v2 0) 1))⟩) (⟨(gB (gT v5 0)),(gS (gT v5 1))⟩)) λv6 hv6=>(gs (Ao hv6 ·) (Ab 11 (Dx (jZ (⟨⟨(gB (gT (gT v6 0) 0)),(gS (gT (gT v6 0) 1))⟩,⟨(gB (gT (gT v6 0) 2)),(gS (gT (gT v6 0) 3))⟩⟩)) λv7 hv7=>(gs (Ao hv7 ·) (Ab 7 (Dx (Afr (⟨(gB (gT (gT v2 1) 0)),(gS (gT (gT v2 1) 1))⟩)) λv8 hv8=>(gs (Ao hv8 ·) (Ab 11 (gs (Ao hv3 ·) (Ab 3 (gs (Db ((l.length:Int)-1) ((l.length-1:Nat):Int) ·) (Ab 1 (gs (Ao hv4 ·) (Ab 10 (Dx (kF (⟨(gB (gT (gT v4 0) 0)),(gS (gT (gT v4 0) 1))⟩) (⟨⟨(gB (gT (gT v2 1) 0)),(gS (gT (gT v2 1) 1))⟩,⟨(gB (gT (gT v2 1) 2)),(gS (gT (gT v2 1) 3))⟩⟩)) λv9 hv9=>(gs (Ao hv9 ·) (Ab 7 (Dx (Zm (⟨(gB (gT (gT v8 0) 0)),(gS (gT (gT v8 0) 1))⟩) (⟨(gB (gT v9 0)),(gS (gT v9 1))⟩)) λv10 hv10=>(gs (Ao hv10 ·) (Ab 12 (Dx (jZ (⟨⟨(gB (gT (gT v10 0) 0)),(gS (gT (gT v10 0) 1))⟩,⟨(gB (gT (gT v10 0) 2)),(gS (gT (gT v10 0) 3))⟩⟩)) λv11 hv11=>(gs (Ao hv11 ·) (gs (Cy (.int .i64 (Ai (0-(gI v11)))) (.int .i64 (Ai (0-(gI v11)))) ·) (Ab 5 (Bb)))))))))))))))))))))))))))))))))))))))))
noncomputable def AmB (l:List Int) (o:Int) (d:Nat) (k:Nat):Value:=Kl 103 [.one .i,.one .i] [Aw l,.int o,.int (d:Int),.int (k:Int)]
theorem dW (l:List Int) (o:Int) (d:Nat) (k:Nat) (h0:Zp l d k):AF Tryz.prog 103 [Aw l,.int o,.int (d:Int),.int (k:Int)] (.lit (Hh [.one .i,.one .i] (AmB l o d k))):=Bi (AgQ l o d k h0)
theorem qH (s:Sg):AF Tryz.prog 102 [Lk s] (.agg [Aw s.x,Aw s.y,Aw s.z]):=by
 refine As func102 rfl λB D0 hA0=>?_
 exact Ae 19 (Cu)
theorem AfQ (s:Sg) (d:Nat) (k:Nat) (h0:Zp s.x d k/\Zp s.y d k/\Zp s.z d k):∃r,Fx [.agg [.i,.i,.i,.i,.i,.i]] r/\AF Tryz.prog 78 [Lk s,.int (d:Int),.int (k:Int)] r:=by
 refine Au func78 rfl ?_
 exact Ab 16 (gs (Ao (qH s) ·) (Ab 4 (gs (Ta 3 ·) (Ab 14 (gs (Ct (Aw s.x) .none (Eo 171 (.tmp 12) (.tmp 13) κ underlying171 1 sizeOf70 0 false isAgg70 [Aw s.x,Aw s.y,Aw s.z] 0 κ κ ω δ β δ (Aw s.x) κ) ·) (Ab 12 (Dx (dW s.x s.o d k h0.1) λv1 hv1=>(gs (Ao hv1 ·) (Ab 29 (gs (Ct (Aw s.y) .none (Eo 171 (.tmp 12) (.tmp 13) κ underlying171 1 sizeOf70 1 false isAgg70 [Aw s.x,Aw s.y,Aw s.z] 1 κ κ ω δ β δ (Aw s.y) κ) ·) (Ab 12 (Dx (dW s.y s.o d k h0.2.1) λv2 hv2=>(gs (Ao hv2 ·) (Ab 29 (gs (Ct (Aw s.z) .none (Eo 171 (.tmp 12) (.tmp 13) κ underlying171 1 sizeOf70 2 false isAgg70 [Aw s.x,Aw s.y,Aw s.z] 2 κ κ ω δ β δ (Aw s.z) κ) ·) (Ab 12 (Dx (dW s.z s.o d k h0.2.2) λv3 hv3=>(gs (Ao hv3 ·) (Ab 48 (Bb))))))))))))))))))))
noncomputable def Amf (s:Sg) (d:Nat) (k:Nat):Value:=Kl 78 [.agg [.i,.i,.i,.i,.i,.i]] [Lk s,.int (d:Int),.int (k:Int)]
theorem AeO (s:Sg) (d:Nat) (k:Nat) (h0:Zp s.x d k/\Zp s.y d k/\Zp s.z d k):AF Tryz.prog 78 [Lk s,.int (d:Int),.int (k:Int)] (.lit (Hh [.agg [.i,.i,.i,.i,.i,.i]] (Amf s d k))):=Bi (AfQ s d k h0)
theorem zU {c:Nat->Int} {n j:Nat} (hc:∀q,Bd 1100 (c q)) (hn:n<=25) (hj:j<n):Bd 1100 (Gh c n j).1/\(Gh c n j).2<=3000000:=by
 have w:=dP (n-1) ω j ω
 exact⟨(hc j).div _,Int.le_trans (Int.ediv_le_self _ w.1) w.2⟩
theorem fN {g:Bool} {c:Nat->Int} {n:Nat} (hc:∀q,Bd 1100 (c q)) (hn:n<=25):∀j,0<j->j<=n->Bd 1100 (Qg g c n j).1/\(Qg g c n j).2<=3000000
 |0,h,_=>absurd h (Nat.lt_irrefl 0)
 |j+1,_,h=>by
  have ht:=zU hc hn (j:=j) ω
  by_cases h0:j=0
  rw[AmN h0];exact ht
  have ih:=fN (g:=g) hc hn j ω ω
  rw[Qg,if_neg h0]
  split
  exact ih
  split
  exact ih
  exact ht
abbrev spP (l:List Int) (d k:Nat):Nat->Int:=oc1 l (k:Int) 1 ((2^d:Nat):Int)
abbrev spN (l:List Int) (d k:Nat):Nat:=Gz (spP l d k) (ocN l)
abbrev spC (l:List Int) (d k:Nat):Nat->Int:=ofZ (spP l d k) (spN l d k) (l.length-1)
abbrev pR (g:Bool) (l:List Int) (d k:Nat):Int×Int:=Qg g (spC l d k) (l.length-1+1) (l.length-1+1)
abbrev spB (g:Bool) (l:List Int) (o:Int) (d k:Nat):Int:=o*((2^(d*(l.length-1)):Nat):Int)*(pR g l d k).2
def flI (x y:Int):Int:=iR (x/Tw x y/(y/Tw x y))
def aL (l:List Int) (o:Int) (d k:Nat):Int:=flI (pR false l d k).1 (spB false l o d k)
def Lt (l:List Int) (o:Int) (d k:Nat):Int:=flI (-(pR true l d k).1) (spB true l o d k)
theorem eA (n x y:Int) (hn:Bn n) (hy:Bn y) (hf:Bn (n*y)):AF Tryz.prog 134 [WA n,Ir x y] (WA (n*y)):=by
 refine As func134 rfl λB D0 hA0=>?_
 exact Ae 12 (Ao (cV n y hn hy hf) (Ae 15 (Cu)))
theorem dV (x y:Int) (hx:Bn x) (hy:Bn y) (hp:0<y):AF Tryz.prog 136 [Ir x y] (.int (iR (x/y))):=by
 refine As func136 rfl λB D0 hA0=>?_
 exact Ae 9 (Ao (wA x y hx hy hp) (Ae 11 (Ao (qS (x/y) (Rt hx)) (Ae 14 (Cu)))))
theorem Afq (x:Int) (hx:Bn x) (hn:Bn (-x)):AF Tryz.prog 137 [WA x] (.lit (.tuple #[Ak (-x),.int .i64 0])):=by
 have:=qU x hx
 rwa [Ga hn,Ju hn] at this
theorem Bd.neg {e:Nat} {x:Int} (h:Bd e x):Bd e (-x):=⟨by rw[Int.natAbs_neg];exact h.le⟩
theorem Aj1 (k:Nat):Bd k ((2^k:Nat):Int):=⟨by rw[Int.natAbs_natCast];exact Nat.le_refl _⟩
theorem eB (l:List Int) (o:Int) (d k:Nat) (h0:Zp l d k) (h1:0<o/\o<=9223372036854775807) (h2: -9223372036854775807<=Lt l o d k/\Lt l o d k<=9223372036854775807):AF Tryz.prog 103 [Aw l,.int o,.int (d:Int),.int (k:Int)] (.lit (.tuple #[.int .i64 (aL l o d k),.int .i64 (-Lt l o d k)])):=by
 have hn1:=h0.1
 have hn2:=h0.2.1
 have hd8:=h0.2.2.2.1
 have hk:=h0.2.2.2.2
 have hp:=Ank hd8
 have hp0:=Nat.two_pow_pos d
 have ho:ocN l<=l.length:=Nw (nN l) l.length
 have ho2:spN l d k<=ocN l:=Nw _ _
 have hdk:(d:Int)*((l.length-1:Nat):Int)=((d*(l.length-1):Nat):Int):=(Int.natCast_mul _ _).symm
 have hd40:d*(l.length-1)<=8*5:=Nat.mul_le_mul hd8 ω
 have hbd:∀i,Bd 1000 (spP l d k i):=λi=>(AmX h0.2.2.1 ω ⟨ω,ω⟩ ⟨δ,δ⟩ ⟨ω,ω⟩ i).mono δ
 have hcb:∀q,Bd 1100 (spC l d k q):=AmZ hbd ω
 have hcf:∀q,Bn (spC l d k q):=λq=>(hcb q).fit δ
 have hL:=AaQ (g:=false) hcf (by omega:l.length-1+1<=25) (l.length-1+1) ω ζ
 have hU:=AaQ (g:=true) hcf (by omega:l.length-1+1<=25) (l.length-1+1) ω ζ
 have sL:=fN (g:=false) hcb (by omega:l.length-1+1<=25) (l.length-1+1) ω ζ
 have sU:=fN (g:=true) hcb (by omega:l.length-1+1<=25) (l.length-1+1) ω ζ
 have hsh:Bd 200 (o*((2^(d*(l.length-1)):Nat):Int)):=((Bd.int (by omega: -9223372036854775808<=o) ω).mul (Aj1 _)).mono ω
 have hbl:Bn (spB false l o d k):=(hsh.mul (Bd.int (x:=(pR false l d k).2) (Int.le_trans δ (Int.le_of_lt hL.2.2)) (Int.le_trans sL.2 δ))).fit δ
 have hbu:Bn (spB true l o d k):=(hsh.mul (Bd.int (x:=(pR true l d k).2) (Int.le_trans δ (Int.le_of_lt hU.2.2)) (Int.le_trans sU.2 δ))).fit δ
 have hsp:0<o*((2^(d*(l.length-1)):Nat):Int):=Int.mul_pos h1.1 (by have:=Nat.two_pow_pos (d*(l.length-1));omega)
 have hpl:0<spB false l o d k:=Int.mul_pos hsp hL.2.2
 have hpu:0<spB true l o d k:=Int.mul_pos hsp hU.2.2
 have hN:Bn (-(pR true l d k).1):=sU.1.neg.fit δ
 refine As func103 rfl λB D0 hA0=>?_
 refine Ae 9 (Ao (kE l h0.1 ω h0.2.2.1) (Ae 8 (Cn [(2,_,.none),(3,_,.none),(5,.int ((2^d:Nat):Int),.none),(6,_,.none),(7,_,.none)] [0,1,2,10] ⟨Be (Ep (k:Int) ω ω),Be (Ep 1 ω ω),Ea (.int .i64 (IntKind.wrap .i64 (1*2^min (d:Int).toNat 64))) (congrArg (Value.int .i64) (AoI h0.2.2.2.1)),Be (Ep ((2^d:Nat):Int) ω ω),Be (dS (ocN l) (nN l) (k:Int) 1 ((2^d:Nat):Int) ω h0.2.2.1 (Sl _ _) ⟨ω,ω⟩ ⟨δ,δ⟩ ⟨ω,ω⟩ ω),trivial⟩ (Ae 6 (Db ((l.length:Int)-1) ((l.length-1:Nat):Int) (Ao (AeR (spN l d k) (spP l d k) (l.length-1) hbd (Sl _ _) ω ω) (Ae 10 (Ao (vN (l.length-1+1) (spC l d k) ω ω hcb) (Ae 14 (Ao (Ep o ω ω) (Ae 3 (Db ((l.length:Int)-1) ((l.length-1:Nat):Int) (Cy (.int .i64 (IntKind.wrap .i64 ((d:Int)*((l.length-1:Nat):Int)))) (.int .i64 ((d*(l.length-1):Nat):Int)) ?_ (congrArg (Value.int .i64) ((IntWalk.i64_in _ ω).trans (by rw[Int.natCast_mul]))))))))))))))))
 exact Ao (eE o (d*(l.length-1)) (Eg ω ω) ω (hsh.fit δ)) (Ae 12 (Ao (eA (o*((2^(d*(l.length-1)):Nat):Int)) ((pR false l d k).1) ((pR false l d k).2) (hsh.fit δ) hL.2.1 hbl) (Ae 8 (Ao (Wf ((pR false l d k).1) (spB false l o d k) hL.1 hbl hpl) (Ae 11 (Ao (dV (((pR false l d k).1)/Tw ((pR false l d k).1) (spB false l o d k)) ((spB false l o d k)/Tw ((pR false l d k).1) (spB false l o d k)) (Wq hL.1 hbl hpl).1 (Wq hL.1 hbl hpl).2.1 (Wq hL.1 hbl hpl).2.2) (Ae 7 (Ao (Afq (pR true l d k).1 hU.1 hN) (Ae 11 (Ao (Ep o ω ω) (Ae 3 (Db ((l.length:Int)-1) ((l.length-1:Nat):Int) (Db ((d:Int)*((l.length-1:Nat):Int)) ((d:Int)*((l.length-1:Nat):Int)) (Ao (eE o (d*(l.length-1)) (Eg ω ω) ω (hsh.fit δ)) (Ae 10 (Ao (eA (o*((2^(d*(l.length-1)):Nat):Int)) ((pR true l d k).1) ((pR true l d k).2) (hsh.fit δ) hU.2.1 hbu) (Ae 7 (Ao (Wf (-(pR true l d k).1) (spB true l o d k) hN hbu hpu) (Ae 12 (Ao (dV ((-(pR true l d k).1)/Tw (-(pR true l d k).1) (spB true l o d k)) ((spB true l o d k)/Tw (-(pR true l d k).1) (spB true l o d k)) (Wq hN hbu hpu).1 (Wq hN hbu hpu).2.1 (Wq hN hbu hpu).2.2) (Db (0-(Lt l o d k)) (-Lt l o d k) (Ae 5 (Cu)))))))))))))))))))))))
structure Bx where
 lo:V3
 hi:V3
abbrev bxV (b:Bx):Value:= .agg #[.int .i64 b.lo.x,.int .i64 b.lo.y,.int .i64 b.lo.z,.int .i64 b.hi.x,.int .i64 b.hi.y,.int .i64 b.hi.z]
abbrev bxA (b:Bx):AV:= .lit (bxV b)
def Hc:Prop:=∀(f:Lu) (a b:V3),Zi f->∃r,Fx [.one .b,.one .i] r/\AF Tryz.prog 106 [Jw f,Bf a,Bf b] r
noncomputable def Am9 (f:Lu) (a b:V3):Value:=Kl 106 [.one .b,.one .i] [Jw f,Bf a,Bf b]
theorem Xd (f:Lu) (a b:V3) (h:Hc/\Zi f):AF Tryz.prog 106 [Jw f,Bf a,Bf b] (.lit (Hh [.one .b,.one .i] (Am9 f a b))):=Bi (h.1 f a b h.2)
theorem Aj3 (b:Bx) (v:V3):∃r,Fx [.one .b] r/\AF Tryz.prog 104 [bxA b,Bf v] r:=by
 refine Au func104 rfl ?_
 refine Ab 16 (Eu 11 ?_ ?_)
 refine Ab 8 (Eu 19 ?_ ?_)
 refine Ab 8 (Eu 27 ?_ ?_)
 exact Ab 11 (Bb)
 exact Ab 11 (Bb)
 exact Ab 19 (Bb)
 exact Ab 27 (Bb)
noncomputable def Aog (b:Bx) (v:V3):Value:=Kl 104 [.one .b] [bxA b,Bf v]
theorem AiV (b:Bx) (v:V3):AF Tryz.prog 104 [bxA b,Bf v] (.lit (Hh [.one .b] (Aog b v))):=Bi (Aj3 b v)
theorem xV (l:Vs) (b:Bx) (h0:l.n<=64):∃r,Fx [.one .b] r/\AF Tryz.prog 49 [Cd l,.lit (.func (.func 104) #[bxV b] #[])] r:=by
 refine Au func49 rfl ?_
 refine Ab 9 (cE func80 (Ab 14 (Vj [0,1,7,8] (λm s=>∃q,m=l.n-q/\(q<=l.n)/\s=⟨[(0,Cd l),(1,.lit (.func (.func 104) #[.agg #[.int .i64 b.lo.x,.int .i64 b.lo.y,.int .i64 b.lo.z,.int .i64 b.hi.x,.int .i64 b.hi.y,.int .i64 b.hi.z]] #[])),(7,.int (l.n:Int)),(8,.int (q:Int))],[],0,19⟩) (l.n-0) ⟨0,rfl,Nat.zero_le _,κ⟩ ?_)))
 rintro _ _ ⟨q,rfl,hF,rfl⟩ hJ1
 refine Ab 6 (Hf 9 ((q:Int)<(l.n:Int)) (λhx2 hx2d=>?_) (λhx2 hx2d=>?_))
 refine Ab 16 (gs (Hk q l.n ·) (Ab 1 (Dx (AiV b (l.f q)) λv3 hv3=>(gs (vcm (b:= .agg #[.int .i64 b.lo.x,.int .i64 b.lo.y,.int .i64 b.lo.z,.int .i64 b.hi.x,.int .i64 b.hi.y,.int .i64 b.hi.z]) hv3 ·) (Ab 2 (Eu 16 ?_ ?_))))))
 exact Ab 13 (Iw (Ab 5 (Bb)))
 exact Ab 5 (gs (Db ((q:Int)+1) ((q+1:Nat):Int) ·) (Ab 2 (mI [0,1,7,8] (hJ1 _ _ (by omega:l.n-(q+1)<l.n-q) ⟨q+1,rfl,ω,rfl⟩))))
 exact Ab 12 (Iw (Ab 5 (Bb)))
noncomputable def AgK (l:Vs) (b:Bx):Value:=Kl 49 [.one .b] [Cd l,.lit (.func (.func 104) #[bxV b] #[])]
theorem vS (l:Vs) (b:Bx) (h0:l.n<=64):AF Tryz.prog 49 [Cd l,.lit (.func (.func 104) #[bxV b] #[])] (.lit (Hh [.one .b] (AgK l b))):=Bi (xV l b h0)
theorem Wd (b:Bx):AF Tryz.prog 105 [bxA b] (.lit (.agg #[.int .i64 b.lo.x,.int .i64 b.lo.y,.int .i64 b.lo.z,.int .i64 b.hi.x,.int .i64 b.lo.y,.int .i64 b.lo.z,.int .i64 b.hi.x,.int .i64 b.hi.y,.int .i64 b.lo.z,.int .i64 b.lo.x,.int .i64 b.hi.y,.int .i64 b.lo.z])):=by
 refine As func105 rfl λB D0 hA0=>?_
 exact Ae 7 (Cn [] [2,3,4] trivial (Ae 30 (Cu)))
theorem AcO (b:Bx) (f:Lu) (h0:Hc/\Zi f):∃r,Fx [.one .b] r/\AF Tryz.prog 79 [bxA b,Jw f] r:=by
 have hn8:=h0.2.1
 have hn9:=h0.2.2.1
 refine Au func79 rfl ?_
 refine Ab 17 (Eu 17 ?_ ?_)
 exact Ab 17 (Bb)
 refine Ab 9 (Eu 24 ?_ ?_)
 exact Ab 8 (Bb)
 refine Ab 13 (Vj [2,3,26,27,28] (λm s=>∃q,m=f.hn-q/\(q<=f.hn)/\s=⟨[(2,.ptr 0 0),(3,.ptr 1 0),(26,hsA f),(27,.int (f.hn:Int)),(28,.int (q:Int))],[(0,.box 145 [.int b.lo.x,.int b.lo.y,.int b.lo.z,.int b.hi.x,.int b.hi.y,.int b.hi.z]),(1,.box 25 [Cd f.o,hsA f,.int f.low,.int f.high])],2,58⟩) (f.hn-0) ⟨0,rfl,Nat.zero_le _,κ⟩ ?_)
 rintro _ _ ⟨q,rfl,hF,rfl⟩ hJ1
 have hnq:=h0.2.2.2 q
 refine Ab 6 (Hf 29 ((q:Int)<(f.hn:Int)) (λhx2 hx2d=>?_) (λhx2 hx2d=>?_))
 refine Ab 7 (gs (Hk q f.hn ·) (Ab 8 (gs (Cy (.func (.func 104) #[.agg #[.int .i64 b.lo.x,.int .i64 b.lo.y,.int .i64 b.lo.z,.int .i64 b.hi.x,.int .i64 b.hi.y,.int .i64 b.hi.z]] #[]) (.func (.func 104) #[.agg #[.int .i64 b.lo.x,.int .i64 b.lo.y,.int .i64 b.lo.z,.int .i64 b.hi.x,.int .i64 b.hi.y,.int .i64 b.hi.z]] #[]) ·) (Dx (vS (f.h q) b ω) λv3 hv3=>(gs (Ao hv3 ·) (Ab 2 (Eu 35 ?_ ?_)))))))
 exact Ab 12 (Bb)
 exact Ab 5 (gs (Db ((q:Int)+1) ((q+1:Nat):Int) ·) (Ab 2 (mI [2,3,26,27,28] (hJ1 _ _ (by omega:f.hn-(q+1)<f.hn-q) ⟨q+1,rfl,ω,rfl⟩))))
 refine Ab 9 (gs (Ao (Wd b) ·) (Ab 11 (gs (Ta 4 ·) (Ab 18 (Dx (Xd f b.lo (⟨b.hi.x,b.lo.y,b.lo.z⟩) h0) λv4 hv4=>(gs (Cn [(9,_,.none)] [3,7,9,39] ⟨Be hv4,trivial⟩ ·) (Ab 7 (Eu 56 ?_ ?_))))))))
 exact Ab 12 (Bb)
 refine Ab 27 (Dx (Xd f (⟨b.hi.x,b.lo.y,b.lo.z⟩) (⟨b.hi.x,b.hi.y,b.lo.z⟩) h0) λv5 hv5=>(gs (Cn [(9,_,.none)] [3,7,9,39] ⟨Be hv5,trivial⟩ ·) (Ab 7 (Eu 56 ?_ ?_))))
 exact Ab 12 (Bb)
 refine Ab 27 (Dx (Xd f (⟨b.hi.x,b.hi.y,b.lo.z⟩) (⟨b.lo.x,b.hi.y,b.lo.z⟩) h0) λv6 hv6=>(gs (Cn [(9,_,.none)] [3,7,9,39] ⟨Be hv6,trivial⟩ ·) (Ab 7 (Eu 56 ?_ ?_))))
 exact Ab 12 (Bb)
 refine Ab 27 (Dx (Xd f (⟨b.lo.x,b.hi.y,b.lo.z⟩) b.lo h0) λv7 hv7=>(gs (Cn [(9,_,.none)] [3,7,9,39] ⟨Be hv7,trivial⟩ ·) (Ab 7 (Eu 56 ?_ ?_))))
 exact Ab 12 (Bb)
 exact Ab 27 (Bb)
noncomputable def AjX (b:Bx) (f:Lu):Value:=Kl 79 [.one .b] [bxA b,Jw f]
theorem AbI (b:Bx) (f:Lu) (h0:Hc/\Zi f):AF Tryz.prog 79 [bxA b,Jw f] (.lit (Hh [.one .b] (AjX b f))):=Bi (AcO b f h0)
def Al7:Nat->Nat
 |0=>0
 |_+1=>1
def Al8 (g:FuncId) (x y:AV):Nat->AV
 |0=> .top
 |m+1=> .fn g [x,y,.elt (Al7 m) λ_=>Al8 g x y m]
abbrev tQ (g:FuncId) (x y:AV) (m:Nat):AV:= .elt (Al7 m) λ_=>Al8 g x y m
theorem Am3 {E:Ar} {g:FuncId} {l:List AV} {v:Value} (h:VR E (.fn g l) v):∃vs,v= .func (.func g) #[] vs/\vs.size=l.length/\∀i,i<l.length->VR E (l.getD i .top) (vs.getD i undef):=by
 cases h with
 |fn _ _ _ vs hn h=>exact⟨vs,rfl,hn,h⟩
theorem AhB {B:Nat} {D0 E:Ar} {c:Nat->Option Bc} (hh:HR B D0 E c) {id:Nat} {t:TypeId} {g:FuncId} {x y:AV} (hx:x.flat=true) (hy:y.flat=true) (hc:c id=some (.box t [.fn g [x,y,.ptr id 0]])):∀(m:Nat) (v:Value),VR E (.ptr id 0) v->VR (E.fr id).fz (tQ g x y m) v:=by
 obtain⟨arr,hb,hvs⟩:=hh.box hc
 obtain⟨vs,e1,e2,e3⟩:=Am3 (hvs.2 0)
 have h0:=e3 0 (by simp)
 have h1:=e3 1 (by simp)
 have h2:=e3 2 (by simp)
 intro m
 induction m with
 |zero=>
  intro v hv
  cases hv with
  |ptr _ _ _ hA=>exact .elt _ _ _ _ _ (λ_=>undef) (.inr rfl) (λj hj=>absurd hj (Nat.not_lt_zero j)) λj hj=>absurd hj (Nat.not_lt_zero j)
 |succ m ih=>
  intro v hv
  have hsz:0<arr.size:=by rw[hvs.1];simp
  cases hv with
  |ptr _ _ _ hA=>
   refine .elt _ _ _ _ _ (λj=>arr.getD j undef) (.inr rfl) (λj hj=>?_) λj hj=>?_
   obtain rfl:j=0:=by have:j<1:=hj;omega
   exact Jf hb hsz
   obtain rfl:j=0:=by have:j<1:=hj;omega
   show VR _ (.fn g [x,y,tQ g x y m]) (arr.getD 0 undef)
   rw[e1]
   refine .fn _ _ _ _ (by rw[e2];rfl) λi hi=>?_
   match i,hi with
   |0,_=>exact(h0.flat hx).up (E.le_fr id).fz
   |1,_=>exact(h1.flat hy).up (E.le_fr id).fz
   |2,_=>exact ih _ h2
def frzP (id:Nat) (V:AV):AV->AV
 | .ptr id' off=>if id'=id then (if off=0 then V else .top) else .ptr id' off
 |x=>x
def Bu.frzP (c:Bu) (id:Nat) (V:AV):Bu:=⟨c.m,c.k,⟨mapT (YtihcpmmopejpoaaGreatDoor.frzP id V) c.s.t,(Gx c.s.h id).map λp=>(p.1,p.2.mapB (YtihcpmmopejpoaaGreatDoor.frzP id V)),c.s.nx,c.s.n⟩⟩
theorem An4 {P:Program} {R:Option Nat} {B:Nat} {D0:Ar} {Q:Exit->St->Prop} {c:Bu} (id:Nat) (g:FuncId) (x y:AV) (m:Nat) (hk:Go P R B D0 Q (c.frzP id (tQ g x y m))) (hc:Aq c.s.h id=some (.box (c.boxT id) [.fn g [x,y,.ptr id 0]]):=by kernel_rfl) (hf:(x.flat&&y.flat)=true:=by kernel_rfl):Go P R B D0 Q c:=by
 obtain⟨hx,hy⟩:=Bool.and_eq_true_iff.1 hf
 refine Fq _ (λE a hs=>Tv id (YtihcpmmopejpoaaGreatDoor.frzP id (tQ g x y m)) _ rfl hc (λE z v hh hv=>?_) E a hs) hk
 have up:=hv.up (E.le_fr id)
 unfold YtihcpmmopejpoaaGreatDoor.frzP
 split
 rename_i id' off
 by_cases e1:id'=id
 subst e1
 rw[if_pos rfl]
 by_cases e2:off=0
 subst e2
 rw[if_pos rfl]
 exact(AhB hh hx hy hc m v hv).up (Ar.fz_le _)
 rw[if_neg e2];exact .top _ _
 rw[if_neg e1];exact up
 exact up
abbrev Hj (s:Sg):AV:= .elt 6 λxi=>[AV.int s.f,AV.int s.t,AV.int s.o,Aw s.x,Aw s.y,Aw s.z].getD (0+xi) .top
abbrev Qf (f:Lu):AV:= .elt 4 λxi=>[Cd f.o,hsA f,AV.int f.low,AV.int f.high].getD (0+xi) .top
def SB (s:Sg):Prop:=∀d k,d<=8->k<2^d->Zp s.x d k/\Zp s.y d k/\Zp s.z d k
theorem Aoc {s:Sg} (h:Zo s) (ho:Hy s):SB s:=λd k hd hk=>
 ⟨⟨by have:=ho.2.1.1;omega,ho.2.1.2.1,h.x,hd,hk⟩,⟨by have:=ho.2.2.1.1;omega,ho.2.2.1.2.1,h.y,hd,hk⟩,⟨by have:=ho.2.2.2.1.1;omega,ho.2.2.2.1.2.1,h.z,hd,hk⟩⟩
theorem AoH {f:FuncId} {args:List AV} (h:∃r,Fx [.one .b] r/\AF Tryz.prog f args r):∃b:Bool,AF Tryz.prog f args (.bool b):=⟨_,Bi h⟩
abbrev Vh (s:Sg) (f:Lu):Nat->AV:=tQ 77 (Hj s) (Qf f)
theorem Aco (s:Sg) (f:Lu) (h0:Hc/\Zi f) (hs:SB s):∀(m d k:Nat),d<=8->8-d<m->k<2^d->∃b:Bool,AF Tryz.prog 77 [.int (d:Int),.int (k:Int),Hj s,Qf f,Vh s f m] (.bool b):=by
 intro m
 induction m with
 |zero=>intro d k _ h;exact absurd h (Nat.not_lt_zero _)
 |succ m ih=>
  intro d k hd hm hk
  have hp:=Ank hd
  have hbx:=hs d k hd hk
  refine AoH (Au func77 rfl ?_)
  refine Ab 6 (Dx (AeO s d k hbx) λv1 hv1=>(Dx (AbI (⟨⟨(gI (gT v1 0)),(gI (gT v1 1)),(gI (gT v1 2))⟩,⟨(gI (gT v1 3)),(gI (gT v1 4)),(gI (gT v1 5))⟩⟩) f h0) λv2 hv2=>?_))
  refine Ek (gB v2) (λhx3=>?_) (λhx3=>?_)
  exact gs (Cn [(3,_,.none),(5,.bool true,.none)] [7] ⟨Be hv1,Zy hx3 (Be hv2),trivial⟩ ·) (Ab 2 (Bb))
  refine vsp ((d:Int)<8) (λhx4 hx4d=>?_) (λhx4 hx4d=>?_)
  refine Exists.elim (ih (d+1) (2*k) ω ω (by rw[Nat.pow_succ];omega)) λv5 hv5=>?_
  refine Ek v5 (λhx6=>?_) (λhx6=>?_)
  exact Exists.elim (ih (d+1) (2*k+1) ω ω (by rw[Nat.pow_succ];omega)) λv7 hv7=>(gs (Cn [(3,_,.none),(5,.bool false,.none),(8,.bool true,.none),(12,.int ((d+1:Nat):Int),.none),(14,.int ((2*k:Nat):Int),.none),(15,.bool true,.none),(20,.int ((d+1:Nat):Int),.none),(22,.int ((2*k:Nat):Int),.none),(23,.int ((2*k+1:Nat):Int),.none),(24,_,.none)] [7] ⟨Be hv1,Zy hx3 (Be hv2),vC hx4,Ea (.int .i64 (IntKind.wrap .i64 ((d:Int)+1))) η,Ea (.int .i64 (IntKind.wrap .i64 (2*(k:Int)))) η,Zy hx6 (Ld hv5),Ea (.int .i64 (IntKind.wrap .i64 ((d:Int)+1))) η,Ea (.int .i64 (IntKind.wrap .i64 (2*(k:Int)))) η,Ea (.int .i64 (IntKind.wrap .i64 (((2*k:Nat):Int)+1))) η,Ld hv7,trivial⟩ ·) (Ab 2 (Bb)))
  exact gs (Cn [(3,_,.none),(5,.bool false,.none),(8,.bool true,.none),(12,.int ((d+1:Nat):Int),.none),(14,.int ((2*k:Nat):Int),.none),(15,.bool false,.none)] [7] ⟨Be hv1,Zy hx3 (Be hv2),vC hx4,Ea (.int .i64 (IntKind.wrap .i64 ((d:Int)+1))) η,Ea (.int .i64 (IntKind.wrap .i64 (2*(k:Int)))) η,Zy hx6 (Ld hv5),trivial⟩ ·) (Ab 2 (Bb))
  exact gs (Cn [(3,_,.none),(5,.bool false,.none),(8,.bool false,.none)] [7] ⟨Be hv1,Zy hx3 (Be hv2),vC hx4,trivial⟩ ·) (Ab 2 (Bb))
theorem AcR (f:Lu) (s:Sg) (h0:(Hc/\Zi f)/\SB s):∃r,Fx [.one .b] r/\AF Tryz.prog 48 [Jw f,Lk s] r:=by
 refine Au func48 rfl ?_
 exact Ab 12 (gs (Wz 0 ·) (gs (Wz 1 ·) (Ab 6 (gs (An4 2 77 (Hj s) (Qf f) 10 ·) (Ab 3 (Exists.elim (Aco s f h0.1 h0.2 9 0 0 δ δ δ) λv1 hv1=>(gs (cG hv1 ·) (Ab 4 (Bb)))))))))
noncomputable def AjY (f:Lu) (s:Sg):Value:=Kl 48 [.one .b] [Jw f,Lk s]
theorem AbK (f:Lu) (s:Sg) (h0:(Hc/\Zi f)/\SB s):AF Tryz.prog 48 [Jw f,Lk s] (.lit (Hh [.one .b] (AjY f s))):=Bi (AcR f s h0)
theorem xY (s:Sg) (f:Lu) (h0:(Hc/\Zi f)/\SB s):∃r,Fx [.one .b] r/\AF Tryz.prog 47 [Lk s,Qf f] r:=by
 refine Au func47 rfl ?_
 exact Ab 10 (Dx (AbK f s h0) λv1 hv1=>(gs (Ao hv1 ·) (Ab 5 (Bb))))
noncomputable def AgM (s:Sg) (f:Lu):Value:=Kl 47 [.one .b] [Lk s,Qf f]
theorem vV (s:Sg) (f:Lu) (h0:(Hc/\Zi f)/\SB s):AF Tryz.prog 47 [Lk s,Qf f] (.lit (Hh [.one .b] (AgM s f))):=Bi (xY s f h0)
theorem AcT (f:Lu) (l:List Sg) (h0:Hc/\Zi f/\Pp l):∃r,Fx [.one .i,.one .b,.one .i] r/\AF Tryz.prog 32 [Jw f,Fv l] r:=by
 have hfok:=h0.2.1
 have hl7:=h0.2.2.1
 refine Au func32 rfl ?_
 refine Ab 12 (gs (Ao (Qj f hfok) ·) (Ab 2 (Eu 11 ?_ ?_)))
 exact Ab 16 (Bb)
 refine Ab 1 (gs (Ao (Xl l h0.2.2) ·) (Ab 4 (Aih 15 (bP (Wh l)) (λhx2=>?_) (λhx2=>?_))))
 refine Ab 3 (gs (Wz 0 ·) ?_)
 have hok:=Aay hx2
 have hl6:=hok.2.2
 refine Ab 4 (cE func46 (Ab 14 (Vj [0,1,7,8] (λm s=>∃q,m=l.length-q/\(q<=l.length)/\s=⟨[(0,Fv l),(1,.fn 47 [Qf f]),(7,.int ((l).length:Int)),(8,.int (q:Int))],[],1,19⟩) (l.length-0) ⟨0,rfl,Nat.zero_le _,κ⟩ ?_)))
 rintro _ _ ⟨q,rfl,hF,rfl⟩ hJ1
 refine Ab 6 (Hf 9 ((q:Int)<((l).length:Int)) (λhx4 hx4d=>?_) (λhx4 hx4d=>?_))
 refine Ab 16 (gs (Hk q ((l).length) ·) (Ab 1 (Dx (vV ((l).getD q Sg.none) f ⟨⟨h0.1,h0.2.1⟩,Aoc (h0.2.2.2 _) (hok.1 _ ω).1⟩) λv5 hv5=>(gs (cG hv5 ·) (Ab 2 (Eu 16 ?_ ?_))))))
 exact Ab 13 (Iw (Ab 6 (gs (Ct (.int (max 0 (q:Int))) .none (Ji (.const (.int .i64 0)) (.tmp 19) #[3,3] κ 0 (q:Int) κ κ) ·) (Ab 8 (Bb)))))
 exact Ab 5 (gs (Db ((q:Int)+1) ((q+1:Nat):Int) ·) (Ab 2 (mI [0,1,7,8] (hJ1 _ _ (by omega:l.length-(q+1)<l.length-q) ⟨q+1,rfl,ω,rfl⟩))))
 exact Ab 12 (Iw (Ab 6 (gs (Ct (.int (max 0 (-1))) .none (Ji (.const (.int .i64 0)) (.tmp 19) #[3,3] κ 0 (-1) κ κ) ·) (Ab 8 (Bb)))))
 exact Ab 10 (Bb)
noncomputable def AjZ (f:Lu) (l:List Sg):Value:=Kl 32 [.one .i,.one .b,.one .i] [Jw f,Fv l]
theorem AbL (f:Lu) (l:List Sg) (h0:Hc/\Zi f/\Pp l):AF Tryz.prog 32 [Jw f,Fv l] (.lit (Hh [.one .i,.one .b,.one .i] (AjZ f l))):=Bi (AcT f l h0)
theorem xZ (f:Lu) (l:List Sg) (h0:Hc/\Zi f/\Pp l):∃r,Fx [.one .b,.one .i] r/\AF Tryz.prog 22 [Jw f,Fv l] r:=by
 refine Au func22 rfl ?_
 refine Ab 11 (Dx (AbL f l h0) λv1 hv1=>(gs (Ao hv1 ·) (Ab 14 (Eu 18 ?_ ?_))))
 exact Ab 9 (Bb)
 exact Ab 9 (Bb)
noncomputable def Gd (f:Lu) (l:List Sg):Value:=Kl 22 [.one .b,.one .i] [Jw f,Fv l]
theorem Kj (f:Lu) (l:List Sg) (h0:Hc/\Zi f/\Pp l):AF Tryz.prog 22 [Jw f,Fv l] (.lit (Hh [.one .b,.one .i] (Gd f l))):=Bi (xZ f l h0)
def wO (l:List Int) (o:Int) (d k:Nat):Prop:=Zp l d k/\-9223372036854775807<=Lt l o d k/\Lt l o d k<=9223372036854775807
def Aoh (s:Sg) (d k:Nat):Bx:=⟨⟨aL s.x s.o d k,aL s.y s.o d k,aL s.z s.o d k⟩,⟨-Lt s.x s.o d k,-Lt s.y s.o d k,-Lt s.z s.o d k⟩⟩
theorem Ab8 (s:Sg) (d k:Nat) (h1:0<s.o/\s.o<=9223372036854775807) (hx:wO s.x s.o d k) (hy:wO s.y s.o d k) (hz:wO s.z s.o d k):AF Tryz.prog 78 [Lk s,.int (d:Int),.int (k:Int)] (bxA (Aoh s d k)):=by
 refine As func78 rfl λB D0 hA0=>?_
 exact Ae 16 (Ao (qH s) (Ae 4 (Ta 3 (Ae 14 (Ct (Aw s.x) .none (Eo 171 (.tmp 12) (.tmp 13) κ underlying171 1 sizeOf70 0 false isAgg70 [Aw s.x,Aw s.y,Aw s.z] 0 κ κ ω δ β δ (Aw s.x) κ) (Ae 12 (Ao (eB s.x s.o d k hx.1 h1 hx.2) (Ae 11 (Cy (.int .i64 1) (.int .i64 1) (Ae 17 (Ct (Aw s.y) .none (Eo 171 (.tmp 12) (.tmp 13) κ underlying171 1 sizeOf70 1 false isAgg70 [Aw s.x,Aw s.y,Aw s.z] 1 κ κ ω δ β δ (Aw s.y) κ) (Ae 12 (Ao (eB s.y s.o d k hy.1 h1 hy.2) (Ae 11 (Cy (.int .i64 2) (.int .i64 2) (Ae 17 (Ct (Aw s.z) .none (Eo 171 (.tmp 12) (.tmp 13) κ underlying171 1 sizeOf70 2 false isAgg70 [Aw s.x,Aw s.y,Aw s.z] 2 κ κ ω δ β δ (Aw s.z) κ) (Ae 12 (Ao (eB s.z s.o d k hz.1 h1 hz.2) (Ae 11 (Cy (.int .i64 3) (.int .i64 3) (Ae 36 (Cu)))))))))))))))))))))))
def Oc (v:V3):Prop:=(-2097152<=v.x/\v.x<=2097152)/\(-2097152<=v.y/\v.y<=2097152)/\(-2097152<=v.z/\v.z<=2097152)
instance (v:V3):Decidable (Oc v):=by unfold Oc;exact inferInstance
theorem Oc.val {v:V3} (h:Oc v):Ge 16777216 [v.x,v.y,v.z]=true:=by
 obtain⟨h1,h2,h3⟩:=h
 unfold Ge
 simp
 omega
theorem Ahm {u v:Int} (h1: -4194304<=u/\u<=4194304) (h2: -4194304<=v/\v<=4194304): -17592186044416<=u*v/\u*v<=17592186044416:=by
 have h:(u*v).natAbs<=4194304*4194304:=by rw[Int.natAbs_mul];exact Nat.mul_le_mul ω ω
 omega
def sgI (n:Int):Int:=if n<0 then -1 else if 0<n then 1 else 0
def iF (a b c:V3):Int:=sgI ((b.x-a.x)*(c.y-a.y)-(b.y-a.y)*(c.x-a.x))
theorem AbS (n:Int):AF Tryz.prog 108 [.int n] (.int (sgI n)):=by
 refine As func108 rfl λB D0 hA0=>?_
 refine Ae 14 (Hu 3 (n<0) (λhx1 hx1d=>?_) (λhx1 hx1d=>?_))
 ·
  exact Ae 9 (Fd (.int (-1)) (congrArg AV.int (by unfold sgI;rw[if_pos hx1d])))
 ·
  refine Ae 8 (Hu 6 ((0:Int)<n) (λhx2 hx2d=>?_) (λhx2 hx2d=>?_))
  ·
   exact Ae 9 (Fd (.int 1) (congrArg AV.int (by unfold sgI;rw[if_neg hx1d,if_pos hx2d])))
  ·
   exact Ae 10 (Fd (.int 0) (congrArg AV.int (by unfold sgI;rw[if_neg hx1d,if_neg hx2d])))
theorem wB (v:V3) (h:Oc v):AF Tryz.prog 107 [Bf v] (.bool true):=by
 have:=Vb v
 rwa [h.val] at this
theorem AbT (a b c:V3) (ha:Oc a) (hb:Oc b) (hc:Oc c):AF Tryz.prog 81 [Bf a,Bf b,Bf c] (.lit (.tuple #[.int .i64 (iF a b c),.int .i64 0])):=by
 obtain⟨a1,a2,a3⟩:=id ha
 obtain⟨b1,b2,b3⟩:=id hb
 obtain⟨c1,c2,c3⟩:=id hc
 have m1:=Ahm (u:=b.x-a.x) (v:=c.y-a.y) ⟨ω,ω⟩ ⟨ω,ω⟩
 have m2:=Ahm (u:=b.y-a.y) (v:=c.x-a.x) ⟨ω,ω⟩ ⟨ω,ω⟩
 refine As func81 rfl λB D0 hA0=>?_
 exact Ae 13 (Ao (wB a ha) (Ae 3 (Ao (wB b hb) (Ae 4 (Ao (wB c hc) (Ae 13 (Db (b.x-a.x) (b.x-a.x) (Ae 4 (Db (c.y-a.y) (c.y-a.y) (Db ((b.x-a.x)*(c.y-a.y)) ((b.x-a.x)*(c.y-a.y)) (Ae 4 (Db (b.y-a.y) (b.y-a.y) (Ae 4 (Db (c.x-a.x) (c.x-a.x) (Db ((b.y-a.y)*(c.x-a.x)) ((b.y-a.y)*(c.x-a.x)) (Db ((b.x-a.x)*(c.y-a.y)-(b.y-a.y)*(c.x-a.x)) ((b.x-a.x)*(c.y-a.y)-(b.y-a.y)*(c.x-a.x)) (Ao (AbS ((b.x-a.x)*(c.y-a.y)-(b.y-a.y)*(c.x-a.x))) (Ae 5 (Fd (.lit (.tuple #[.int .i64 (sgI ((b.x-a.x)*(c.y-a.y)-(b.y-a.y)*(c.x-a.x))),.int .i64 0])) (by unfold iF;rfl))))))))))))))))))))
theorem eC (a b c:V3) (ha:Oc a) (hb:Oc b) (hc:Oc c):AF Tryz.prog 55 [Bf a,Bf b,Bf c] (.int (iF a b c)):=by
 refine As func55 rfl λB D0 hA0=>?_
 exact Ae 13 (Ao (AbT a b c ha hb hc) (Ae 14 (Cu)))
theorem Xi (a b c:V3) (v:Int) (h:Oc a/\Oc b/\Oc c/\iF a b c=v):AF Tryz.prog 55 [Bf a,Bf b,Bf c] (.int v):=by
 rw[<-h.2.2.2]
 exact eC a b c h.1 h.2.1 h.2.2.1
theorem Ql (v:V3) (h:Ge 1048576 [v.x,v.y,v.z]=true):AF Tryz.prog 37 [Bf v] (.bool true):=by
 have:=Xg v
 rwa [h] at this
def onB (a b p:V3):Bool:=decide (iF a b p=0)&&(decide (min a.x b.x<=p.x)&&(decide (p.x<=max a.x b.x)&&(decide (min a.y b.y<=p.y)&&decide (p.y<=max a.y b.y))))
theorem AlS (a b p:V3) (ha:Oc a) (hb:Oc b) (hp:Oc p):AF Tryz.prog 51 [Bf a,Bf b,Bf p] (.bool (onB a b p)):=by
 refine As func51 rfl λB D0 hA0=>?_
 refine Ae 13 (Ao (eC a b p ha hb hp) (Ae 2 (Hu 12 ((iF a b p)=0) (λhx1 hx1d=>?_) (λhx1 hx1d=>?_))))
 ·
  refine Ae 6 (Ct (.int (min a.x b.x)) .none (dF (.tmp 16) (.tmp 18) #[3,3] κ a.x b.x κ κ) (Ae 3 (Hu 22 (min a.x b.x<=p.x) (λhx2 hx2d=>?_) (λhx2 hx2d=>?_))))
  ·
   refine Ae 6 (Ct (.int (max a.x b.x)) .none (Ji (.tmp 26) (.tmp 28) #[3,3] κ a.x b.x κ κ) (Ae 3 (Hu 32 (p.x<=max a.x b.x) (λhx3 hx3d=>?_) (λhx3 hx3d=>?_))))
   ·
    refine Ae 6 (Ct (.int (min a.y b.y)) .none (dF (.tmp 36) (.tmp 38) #[3,3] κ a.y b.y κ κ) (Ae 3 (Hu 42 (min a.y b.y<=p.y) (λhx4 hx4d=>?_) (λhx4 hx4d=>?_))))
    ·
     exact Ae 6 (Ct (.int (max a.y b.y)) .none (Ji (.tmp 46) (.tmp 48) #[3,3] κ a.y b.y κ κ) (Ae 6 (Fd (.bool (decide (p.y<=max a.y b.y))) (congrArg AV.bool (by simp only[onB,hx1,hx2,hx3,hx4,Bool.true_and])))))
    ·
     exact Ae 13 (Fd (.bool false) (congrArg AV.bool (by simp only[onB,hx1,hx2,hx3,hx4,Bool.and_false,Bool.false_and])))
   ·
    exact Ae 23 (Fd (.bool false) (congrArg AV.bool (by simp only[onB,hx1,hx2,hx3,Bool.and_false,Bool.false_and])))
  ·
   exact Ae 33 (Fd (.bool false) (congrArg AV.bool (by simp only[onB,hx1,hx2,Bool.and_false,Bool.false_and])))
 ·
  exact Ae 43 (Fd (.bool false) (congrArg AV.bool (by simp only[onB,hx1,Bool.false_and])))
theorem Iu (a b p:V3) (v:Bool) (h:Oc a/\Oc b/\Oc p/\onB a b p=v):AF Tryz.prog 51 [Bf a,Bf b,Bf p] (.bool v):=by
 rw[<-h.2.2.2]
 exact AlS a b p h.1 h.2.1 h.2.2.1
def sqF:Nat->V3
 |0=>⟨-10,-10,0⟩
 |1=>⟨10,-10,0⟩
 |2=>⟨10,10,0⟩
 |3=>⟨-10,10,0⟩
 |_=>V3.zero
def Ur:Vs:=⟨4,sqF⟩
def Fa (h:Int):Lu:=⟨Ur,0,λ_=>⟨0,λ_=>V3.zero⟩,0,h⟩
theorem AbD:AF Tryz.prog 49 [Cd Ur,.fn 50 []] (.bool false):=by
 refine As func49 rfl λB D0 hA0=>?_
 refine Ae 9 (Als 0 func80 (λ_ hD1=>?_))
 refine Ae 14 (Ta 4 (Ae 22 (Hk 0 4 (Ae 1 (mM 0 func50 (λ_ hD2=>?_))))))
 refine Ae 9 (Ao (Ql ⟨-10,-10,0⟩ δ) (Ae 5 (vrI (Ae 7 (Cy (.int .i64 1) (.int .i64 1) (Ae 25 (Hk 1 4 (Ae 1 (mM 1 func50 (λ_ hD3=>?_))))))))))
 refine Ae 9 (Ao (Ql ⟨10,-10,0⟩ δ) (Ae 5 (vrI (Ae 7 (Cy (.int .i64 2) (.int .i64 2) (Ae 25 (Hk 2 4 (Ae 1 (mM 2 func50 (λ_ hD4=>?_))))))))))
 refine Ae 9 (Ao (Ql ⟨10,10,0⟩ δ) (Ae 5 (vrI (Ae 7 (Cy (.int .i64 3) (.int .i64 3) (Ae 25 (Hk 3 4 (Ae 1 (mM 3 func50 (λ_ hD5=>?_))))))))))
 exact Ae 9 (Ao (Ql ⟨-10,10,0⟩ δ) (Ae 5 (vrI (Ae 7 (Cy (.int .i64 4) (.int .i64 4) (Ae 21 (vrI (Ae 5 (Cu)))))))))
theorem AdV:∃r,r=AV.bool true/\AF Tryz.prog 33 [Cd Ur] r:=by
 refine Au func33 rfl ?_
 exact Ab 23 (gs (Ao AbD ·) (Ab 14 (gs (Ta 4 ·) (Ab 18 (gs (Cn [(2,Cv (Cd Ur) 0,.none),(9,Cv (Cd Ur) 1,.none)] [0,3,4,5,6,23,24] ⟨Jg 0 4,Jg 1 4,trivial⟩ ·) (Ab 29 (gs (Ta 4 ·) (Ab 14 (gs (Cn [(2,Cv (Cd Ur) 1,.none),(9,Cv (Cd Ur) 2,.none)] [0,3,4,5,6,7,8,9,23,24] ⟨Jg 1 4,Jg 2 4,trivial⟩ ·) (Ab 26 (gs (Ao (Iu ⟨-10,-10,0⟩ ⟨10,-10,0⟩ ⟨10,10,0⟩ false δ) ·) (Ab 5 (gs (Ao (Iu ⟨10,-10,0⟩ ⟨10,10,0⟩ ⟨-10,-10,0⟩ false δ) ·) (Ab 36 (gs (Cn [(2,Cv (Cd Ur) 2,.none),(9,Cv (Cd Ur) 3,.none)] [0,3,4,5,6,7,8,9,23,24] ⟨Jg 2 4,Jg 3 4,trivial⟩ ·) (Ab 39 (cE func36 (Ab 10 (gs (Cn [(3,_,.none),(8,_,.none),(14,_,.none),(20,_,.none),(26,_,.none),(30,_,.none)] [8] ⟨Be (Iu ⟨-10,-10,0⟩ ⟨10,-10,0⟩ ⟨10,10,0⟩ false δ),Be (Iu ⟨-10,-10,0⟩ ⟨10,-10,0⟩ ⟨-10,10,0⟩ false δ),Be (Iu ⟨10,10,0⟩ ⟨-10,10,0⟩ ⟨-10,-10,0⟩ false δ),Be (Iu ⟨10,10,0⟩ ⟨-10,10,0⟩ ⟨10,-10,0⟩ false δ),Be (Xi ⟨-10,-10,0⟩ ⟨10,-10,0⟩ ⟨10,10,0⟩ 1 δ),Be (Xi ⟨-10,-10,0⟩ ⟨10,-10,0⟩ ⟨-10,10,0⟩ 1 δ),trivial⟩ ·) (Ab 2 (Iw (Ab 35 (gs (Cn [(2,Cv (Cd Ur) 3,.none),(9,Cv (Cd Ur) 0,.none)] [0,3,4,5,6,7,8,9,23,24] ⟨Jg 3 4,Jg 0 4,trivial⟩ ·) (Ab 38 (gs (Ao (Iu ⟨-10,-10,0⟩ ⟨10,-10,0⟩ ⟨-10,10,0⟩ false δ) ·) (Ab 5 (gs (Ao (Iu ⟨-10,10,0⟩ ⟨-10,-10,0⟩ ⟨10,-10,0⟩ false δ) ·) (Ab 60 (gs (Cn [(2,Cv (Cd Ur) 1,.none),(9,Cv (Cd Ur) 2,.none)] [0,3,4,5,6,23,24] ⟨Jg 1 4,Jg 2 4,trivial⟩ ·) (Ab 29 (gs (Ta 4 ·) (Ab 14 (gs (Cn [(2,Cv (Cd Ur) 2,.none),(9,Cv (Cd Ur) 3,.none)] [0,3,4,5,6,7,8,9,23,24] ⟨Jg 2 4,Jg 3 4,trivial⟩ ·) (Ab 26 (gs (Ao (Iu ⟨10,-10,0⟩ ⟨10,10,0⟩ ⟨-10,10,0⟩ false δ) ·) (Ab 5 (gs (Ao (Iu ⟨10,10,0⟩ ⟨-10,10,0⟩ ⟨10,-10,0⟩ false δ) ·) (Ab 36 (gs (Cn [(2,Cv (Cd Ur) 3,.none),(9,Cv (Cd Ur) 0,.none)] [0,3,4,5,6,7,8,9,23,24] ⟨Jg 3 4,Jg 0 4,trivial⟩ ·) (Ab 39 (cE func36 (Ab 10 (gs (Cn [(3,_,.none),(8,_,.none),(14,_,.none),(20,_,.none),(26,_,.none),(30,_,.none)] [8] ⟨Be (Iu ⟨10,-10,0⟩ ⟨10,10,0⟩ ⟨-10,10,0⟩ false δ),Be (Iu ⟨10,-10,0⟩ ⟨10,10,0⟩ ⟨-10,-10,0⟩ false δ),Be (Iu ⟨-10,10,0⟩ ⟨-10,-10,0⟩ ⟨10,-10,0⟩ false δ),Be (Iu ⟨-10,10,0⟩ ⟨-10,-10,0⟩ ⟨10,10,0⟩ false δ),Be (Xi ⟨10,-10,0⟩ ⟨10,10,0⟩ ⟨-10,10,0⟩ 1 δ),Be (Xi ⟨10,-10,0⟩ ⟨10,10,0⟩ ⟨-10,-10,0⟩ 1 δ),trivial⟩ ·) (Ab 2 (Iw (Ab 59 (gs (Cn [(2,Cv (Cd Ur) 2,.none),(9,Cv (Cd Ur) 3,.none)] [0,3,4,5,6,23,24] ⟨Jg 2 4,Jg 3 4,trivial⟩ ·) (Ab 29 (gs (Ta 4 ·) (Ab 14 (gs (Cn [(2,Cv (Cd Ur) 3,.none),(9,Cv (Cd Ur) 0,.none)] [0,3,4,5,6,7,8,9,23,24] ⟨Jg 3 4,Jg 0 4,trivial⟩ ·) (Ab 26 (gs (Ao (Iu ⟨10,10,0⟩ ⟨-10,10,0⟩ ⟨-10,-10,0⟩ false δ) ·) (Ab 5 (gs (Ao (Iu ⟨-10,10,0⟩ ⟨-10,-10,0⟩ ⟨10,10,0⟩ false δ) ·) (Ab 60 (gs (Cn [(2,Cv (Cd Ur) 3,.none),(9,Cv (Cd Ur) 0,.none)] [0,3,4,5,6,23,24] ⟨Jg 3 4,Jg 0 4,trivial⟩ ·) (Ab 29 (gs (Ta 4 ·) (Ab 38 (Nv (r:= .bool true) rfl)))))))))))))))))))))))))))))))))))))))))))))))))))))))))))))
theorem qN:AF Tryz.prog 33 [Cd Ur] (.bool true):=by
 obtain⟨_,rfl,h⟩:=AdV
 exact h
abbrev yR (z:Int):V3:=⟨0,0,z⟩
theorem Xj (a b:V3) (z v:Int) (hz:0<=z/\z<=2097152) (h:Oc a/\Oc b/\iF a b (yR 0)=v):AF Tryz.prog 55 [Bf a,Bf b,Bf (yR z)] (.int v):=by
 rw[<-h.2.2]
 exact eC a b (yR z) h.1 h.2.1 ⟨⟨by show (-2097152:Int)<=0;decide,by show (0:Int)<=2097152;decide⟩,⟨by show (-2097152:Int)<=0;decide,by show (0:Int)<=2097152;decide⟩,⟨by show -2097152<=z;omega,hz.2⟩⟩
theorem AbE (n:Int):AF Tryz.prog 57 [.int n] (.int (sgI n)):=by
 refine As func57 rfl λB D0 hA0=>?_
 refine Ae 14 (Hu 3 (n<0) (λhx1 hx1d=>?_) (λhx1 hx1d=>?_))
 ·
  exact Ae 9 (Fd (.int (-1)) (congrArg AV.int (by unfold sgI;rw[if_pos hx1d])))
 ·
  refine Ae 8 (Hu 6 ((0:Int)<n) (λhx2 hx2d=>?_) (λhx2 hx2d=>?_))
  ·
   exact Ae 9 (Fd (.int 1) (congrArg AV.int (by unfold sgI;rw[if_neg hx1d,if_pos hx2d])))
  ·
   exact Ae 10 (Fd (.int 0) (congrArg AV.int (by unfold sgI;rw[if_neg hx1d,if_neg hx2d])))
theorem Jl (n v:Int) (h:sgI n=v):AF Tryz.prog 57 [.int n] (.int v):=by
 rw[<-h]
 exact AbE n
abbrev bxZ (z w:Int):Bx:=⟨yR z,yR w⟩
theorem kD (z:Int) (hz:0<=z/\z<=1048576):AF Tryz.prog 37 [Bf (yR z)] (.bool true):=by
 refine Ql (yR z) ?_
 unfold Ge
 simp
 omega
theorem qO (h:Int) (hh:0<=h/\h<=1048576):∃r,r=AV.bool true/\AF Tryz.prog 23 [Jw (Fa h)] r:=by
 refine Au func23 rfl ?_
 refine Ab 11 (gs (Ao qN ·) (Ab 18 (Hf 36 ((1048576:Int)<h) (λhx1 hx1d=>?_) (λhx1 hx1d=>?_))))
 refine Ab 16 ?_
 exact absurd hh ω
 refine Ab 8 (Hf 42 (h<0) (λhx2 hx2d=>?_) (λhx2 hx2d=>?_))
 refine Ab 8 ?_
 exact absurd hh ω
 exact Ab 7 (gs (Kf 2 22 1 1 (λ_=>Cd Ur) ·) (Ab 14 (gs (Ta 0 ·) (Ab 22 (gs (Ta 0 ·) (Ab 18 (Nv (r:= .bool true) rfl)))))))
theorem Ri (h:Int) (hh:0<=h/\h<=1048576):AF Tryz.prog 23 [Jw (Fa h)] (.bool true):=by
 obtain⟨_,rfl,hA⟩:=qO h hh
 exact hA
theorem Ab3 (z:Int) (hz:0<=z/\z<=1048576):∃r,r=AV.int 1/\AF Tryz.prog 54 [.lit (.agg #[.int .i64 (-10),.int .i64 (-10),.int .i64 0]),.lit (.agg #[.int .i64 10,.int .i64 (-10),.int .i64 0]),.elt 3 (λxi=>[.lit (.int .i64 0),.lit (.int .i64 0),.lit (.int .i64 z)].getD (0+xi) .top)] r:=by
 refine Au func54 rfl ?_
 exact Ab 12 (gs (Ao (Xj ⟨-10,-10,0⟩ ⟨10,-10,0⟩ z 1 ⟨hz.1,ω⟩ δ) ·) (Ab 4 (Nv (r:= .int 1) rfl)))
theorem AeJ (z:Int) (hz:0<=z/\z<=1048576):AF Tryz.prog 54 [.lit (.agg #[.int .i64 (-10),.int .i64 (-10),.int .i64 0]),.lit (.agg #[.int .i64 10,.int .i64 (-10),.int .i64 0]),.elt 3 (λxi=>[.lit (.int .i64 0),.lit (.int .i64 0),.lit (.int .i64 z)].getD (0+xi) .top)] (.int 1):=by
 obtain⟨_,rfl,hA⟩:=Ab3 z hz
 exact hA
theorem vF (z:Int) (_:0<=z/\z<=1048576):∃r,r=AV.int (-1)/\AF Tryz.prog 56 [.lit (.agg #[.int .i64 (-10),.int .i64 (-10),.int .i64 0]),.lit (.int .i64 0),.elt 3 (λxi=>[.lit (.int .i64 0),.lit (.int .i64 0),.lit (.int .i64 z)].getD (0+xi) .top)] r:=by
 refine Au func56 rfl ?_
 exact Ab 21 (gs (Ao (Jl (-10) (-1) δ) ·) (Ab 5 (Nv (r:= .int (-1)) rfl)))
theorem jP (z:Int) (hz:0<=z/\z<=1048576):AF Tryz.prog 56 [.lit (.agg #[.int .i64 (-10),.int .i64 (-10),.int .i64 0]),.lit (.int .i64 0),.elt 3 (λxi=>[.lit (.int .i64 0),.lit (.int .i64 0),.lit (.int .i64 z)].getD (0+xi) .top)] (.int (-1)):=by
 obtain⟨_,rfl,hA⟩:=vF z hz
 exact hA
theorem vG (z:Int) (_:0<=z/\z<=1048576):∃r,r=AV.int (-1)/\AF Tryz.prog 56 [.lit (.agg #[.int .i64 (-10),.int .i64 (-10),.int .i64 0]),.lit (.int .i64 1),.elt 3 (λxi=>[.lit (.int .i64 0),.lit (.int .i64 0),.lit (.int .i64 z)].getD (0+xi) .top)] r:=by
 refine Au func56 rfl ?_
 exact Ab 23 (gs (Ao (Jl (-10) (-1) δ) ·) (Ab 4 (Nv (r:= .int (-1)) rfl)))
theorem jQ (z:Int) (hz:0<=z/\z<=1048576):AF Tryz.prog 56 [.lit (.agg #[.int .i64 (-10),.int .i64 (-10),.int .i64 0]),.lit (.int .i64 1),.elt 3 (λxi=>[.lit (.int .i64 0),.lit (.int .i64 0),.lit (.int .i64 z)].getD (0+xi) .top)] (.int (-1)):=by
 obtain⟨_,rfl,hA⟩:=vG z hz
 exact hA
theorem Ab4 (z:Int) (hz:0<=z/\z<=1048576):∃r,r=AV.int 1/\AF Tryz.prog 54 [.lit (.agg #[.int .i64 10,.int .i64 (-10),.int .i64 0]),.lit (.agg #[.int .i64 10,.int .i64 10,.int .i64 0]),.elt 3 (λxi=>[.lit (.int .i64 0),.lit (.int .i64 0),.lit (.int .i64 z)].getD (0+xi) .top)] r:=by
 refine Au func54 rfl ?_
 exact Ab 12 (gs (Ao (Xj ⟨10,-10,0⟩ ⟨10,10,0⟩ z 1 ⟨hz.1,ω⟩ δ) ·) (Ab 4 (Nv (r:= .int 1) rfl)))
theorem AeK (z:Int) (hz:0<=z/\z<=1048576):AF Tryz.prog 54 [.lit (.agg #[.int .i64 10,.int .i64 (-10),.int .i64 0]),.lit (.agg #[.int .i64 10,.int .i64 10,.int .i64 0]),.elt 3 (λxi=>[.lit (.int .i64 0),.lit (.int .i64 0),.lit (.int .i64 z)].getD (0+xi) .top)] (.int 1):=by
 obtain⟨_,rfl,hA⟩:=Ab4 z hz
 exact hA
theorem vH (z:Int) (_:0<=z/\z<=1048576):∃r,r=AV.int 1/\AF Tryz.prog 56 [.lit (.agg #[.int .i64 10,.int .i64 (-10),.int .i64 0]),.lit (.int .i64 0),.elt 3 (λxi=>[.lit (.int .i64 0),.lit (.int .i64 0),.lit (.int .i64 z)].getD (0+xi) .top)] r:=by
 refine Au func56 rfl ?_
 exact Ab 21 (gs (Ao (Jl 10 1 δ) ·) (Ab 5 (Nv (r:= .int 1) rfl)))
theorem jR (z:Int) (hz:0<=z/\z<=1048576):AF Tryz.prog 56 [.lit (.agg #[.int .i64 10,.int .i64 (-10),.int .i64 0]),.lit (.int .i64 0),.elt 3 (λxi=>[.lit (.int .i64 0),.lit (.int .i64 0),.lit (.int .i64 z)].getD (0+xi) .top)] (.int 1):=by
 obtain⟨_,rfl,hA⟩:=vH z hz
 exact hA
theorem vI (z:Int) (_:0<=z/\z<=1048576):∃r,r=AV.int (-1)/\AF Tryz.prog 56 [.lit (.agg #[.int .i64 10,.int .i64 (-10),.int .i64 0]),.lit (.int .i64 1),.elt 3 (λxi=>[.lit (.int .i64 0),.lit (.int .i64 0),.lit (.int .i64 z)].getD (0+xi) .top)] r:=by
 refine Au func56 rfl ?_
 exact Ab 23 (gs (Ao (Jl (-10) (-1) δ) ·) (Ab 4 (Nv (r:= .int (-1)) rfl)))
theorem jS (z:Int) (hz:0<=z/\z<=1048576):AF Tryz.prog 56 [.lit (.agg #[.int .i64 10,.int .i64 (-10),.int .i64 0]),.lit (.int .i64 1),.elt 3 (λxi=>[.lit (.int .i64 0),.lit (.int .i64 0),.lit (.int .i64 z)].getD (0+xi) .top)] (.int (-1)):=by
 obtain⟨_,rfl,hA⟩:=vI z hz
 exact hA
theorem Ab5 (z:Int) (hz:0<=z/\z<=1048576):∃r,r=AV.int 1/\AF Tryz.prog 54 [.lit (.agg #[.int .i64 10,.int .i64 10,.int .i64 0]),.lit (.agg #[.int .i64 (-10),.int .i64 10,.int .i64 0]),.elt 3 (λxi=>[.lit (.int .i64 0),.lit (.int .i64 0),.lit (.int .i64 z)].getD (0+xi) .top)] r:=by
 refine Au func54 rfl ?_
 exact Ab 12 (gs (Ao (Xj ⟨10,10,0⟩ ⟨-10,10,0⟩ z 1 ⟨hz.1,ω⟩ δ) ·) (Ab 4 (Nv (r:= .int 1) rfl)))
theorem AeL (z:Int) (hz:0<=z/\z<=1048576):AF Tryz.prog 54 [.lit (.agg #[.int .i64 10,.int .i64 10,.int .i64 0]),.lit (.agg #[.int .i64 (-10),.int .i64 10,.int .i64 0]),.elt 3 (λxi=>[.lit (.int .i64 0),.lit (.int .i64 0),.lit (.int .i64 z)].getD (0+xi) .top)] (.int 1):=by
 obtain⟨_,rfl,hA⟩:=Ab5 z hz
 exact hA
theorem vJ (z:Int) (_:0<=z/\z<=1048576):∃r,r=AV.int 1/\AF Tryz.prog 56 [.lit (.agg #[.int .i64 10,.int .i64 10,.int .i64 0]),.lit (.int .i64 0),.elt 3 (λxi=>[.lit (.int .i64 0),.lit (.int .i64 0),.lit (.int .i64 z)].getD (0+xi) .top)] r:=by
 refine Au func56 rfl ?_
 exact Ab 21 (gs (Ao (Jl 10 1 δ) ·) (Ab 5 (Nv (r:= .int 1) rfl)))
theorem jT (z:Int) (hz:0<=z/\z<=1048576):AF Tryz.prog 56 [.lit (.agg #[.int .i64 10,.int .i64 10,.int .i64 0]),.lit (.int .i64 0),.elt 3 (λxi=>[.lit (.int .i64 0),.lit (.int .i64 0),.lit (.int .i64 z)].getD (0+xi) .top)] (.int 1):=by
 obtain⟨_,rfl,hA⟩:=vJ z hz
 exact hA
theorem vK (z:Int) (_:0<=z/\z<=1048576):∃r,r=AV.int 1/\AF Tryz.prog 56 [.lit (.agg #[.int .i64 10,.int .i64 10,.int .i64 0]),.lit (.int .i64 1),.elt 3 (λxi=>[.lit (.int .i64 0),.lit (.int .i64 0),.lit (.int .i64 z)].getD (0+xi) .top)] r:=by
 refine Au func56 rfl ?_
 exact Ab 23 (gs (Ao (Jl 10 1 δ) ·) (Ab 4 (Nv (r:= .int 1) rfl)))
theorem jU (z:Int) (hz:0<=z/\z<=1048576):AF Tryz.prog 56 [.lit (.agg #[.int .i64 10,.int .i64 10,.int .i64 0]),.lit (.int .i64 1),.elt 3 (λxi=>[.lit (.int .i64 0),.lit (.int .i64 0),.lit (.int .i64 z)].getD (0+xi) .top)] (.int 1):=by
 obtain⟨_,rfl,hA⟩:=vK z hz
 exact hA
theorem Ab6 (z:Int) (hz:0<=z/\z<=1048576):∃r,r=AV.int 1/\AF Tryz.prog 54 [.lit (.agg #[.int .i64 (-10),.int .i64 10,.int .i64 0]),.lit (.agg #[.int .i64 (-10),.int .i64 (-10),.int .i64 0]),.elt 3 (λxi=>[.lit (.int .i64 0),.lit (.int .i64 0),.lit (.int .i64 z)].getD (0+xi) .top)] r:=by
 refine Au func54 rfl ?_
 exact Ab 12 (gs (Ao (Xj ⟨-10,10,0⟩ ⟨-10,-10,0⟩ z 1 ⟨hz.1,ω⟩ δ) ·) (Ab 4 (Nv (r:= .int 1) rfl)))
theorem AeM (z:Int) (hz:0<=z/\z<=1048576):AF Tryz.prog 54 [.lit (.agg #[.int .i64 (-10),.int .i64 10,.int .i64 0]),.lit (.agg #[.int .i64 (-10),.int .i64 (-10),.int .i64 0]),.elt 3 (λxi=>[.lit (.int .i64 0),.lit (.int .i64 0),.lit (.int .i64 z)].getD (0+xi) .top)] (.int 1):=by
 obtain⟨_,rfl,hA⟩:=Ab6 z hz
 exact hA
theorem vL (z:Int) (_:0<=z/\z<=1048576):∃r,r=AV.int (-1)/\AF Tryz.prog 56 [.lit (.agg #[.int .i64 (-10),.int .i64 10,.int .i64 0]),.lit (.int .i64 0),.elt 3 (λxi=>[.lit (.int .i64 0),.lit (.int .i64 0),.lit (.int .i64 z)].getD (0+xi) .top)] r:=by
 refine Au func56 rfl ?_
 exact Ab 21 (gs (Ao (Jl (-10) (-1) δ) ·) (Ab 5 (Nv (r:= .int (-1)) rfl)))
theorem jV (z:Int) (hz:0<=z/\z<=1048576):AF Tryz.prog 56 [.lit (.agg #[.int .i64 (-10),.int .i64 10,.int .i64 0]),.lit (.int .i64 0),.elt 3 (λxi=>[.lit (.int .i64 0),.lit (.int .i64 0),.lit (.int .i64 z)].getD (0+xi) .top)] (.int (-1)):=by
 obtain⟨_,rfl,hA⟩:=vL z hz
 exact hA
theorem vM (z:Int) (_:0<=z/\z<=1048576):∃r,r=AV.int 1/\AF Tryz.prog 56 [.lit (.agg #[.int .i64 (-10),.int .i64 10,.int .i64 0]),.lit (.int .i64 1),.elt 3 (λxi=>[.lit (.int .i64 0),.lit (.int .i64 0),.lit (.int .i64 z)].getD (0+xi) .top)] r:=by
 refine Au func56 rfl ?_
 exact Ab 23 (gs (Ao (Jl 10 1 δ) ·) (Ab 4 (Nv (r:= .int 1) rfl)))
theorem jW (z:Int) (hz:0<=z/\z<=1048576):AF Tryz.prog 56 [.lit (.agg #[.int .i64 (-10),.int .i64 10,.int .i64 0]),.lit (.int .i64 1),.elt 3 (λxi=>[.lit (.int .i64 0),.lit (.int .i64 0),.lit (.int .i64 z)].getD (0+xi) .top)] (.int 1):=by
 obtain⟨_,rfl,hA⟩:=vM z hz
 exact hA
theorem AeN (z:Int) (hz:0<=z/\z<=1048576):∃r,r=AV.int 1/\AF Tryz.prog 35 [Cd Ur,Bf (yR z)] r:=by
 refine Au func35 rfl ?_
 refine Ab 6 (gs (Wz 0 ·) (Ab 5 (cE func53 (Ab 17 (cE func34 (Ab 13 (Iw (Ab 3 (gs (vnm [4,5,6,7,16] ·) (uL func52 λsp3 sp3p sp3a sp3b=>(Ab 8 (gs (Ta 4 ·) (Ab 14 (gs (Hk 0 4 ·) (Ab 7 (gs (Cn [(6,Cv (Cd Ur) 1,.none)] [0,1,4,5,6,7,8] ⟨Jg 1 4,trivial⟩ ·) (Ab 14 (iH sp3p sp3a (Ab 10 (iG sp3b ?_))))))))))))))))))))
 refine Ab 6 (gs (cG (AeJ z hz) ·) (Ab 4 (gs (Cn [(2,_,.none),(5,_,.none),(8,_,.none),(11,_,.none)] [6,7,10,11,12,13,14] ⟨Ld (jP z hz),Ld (jQ z hz),Ld (jR z hz),Ld (jS z hz),trivial⟩ ·) (Ab 59 (Pg (Ab 26 (gs (Hk 1 4 ·) (Ab 7 (gs (Cn [(6,Cv (Cd Ur) 2,.none)] [0,1,4,5,6,7,8] ⟨Jg 2 4,trivial⟩ ·) (Ab 14 (iH sp3p sp3a (Ab 10 (iG sp3b ?_)))))))))))))
 refine Ab 6 (gs (cG (AeK z hz) ·) (Ab 4 (gs (Cn [(2,_,.none),(5,_,.none),(8,_,.none),(11,_,.none)] [6,7,10,11,12,13,14] ⟨Ld (jR z hz),Ld (jS z hz),Ld (jT z hz),Ld (jU z hz),trivial⟩ ·) (Ab 47 (Pg (Ab 26 (gs (Hk 2 4 ·) (Ab 7 (gs (Cn [(6,Cv (Cd Ur) 3,.none)] [0,1,4,5,6,7,8] ⟨Jg 3 4,trivial⟩ ·) (Ab 14 (iH sp3p sp3a (Ab 10 (iG sp3b ?_)))))))))))))
 refine Ab 6 (gs (cG (AeL z hz) ·) (Ab 4 (gs (Cn [(2,_,.none),(5,_,.none),(8,_,.none),(11,_,.none)] [6,7,10,11,12,13,14] ⟨Ld (jT z hz),Ld (jU z hz),Ld (jV z hz),Ld (jW z hz),trivial⟩ ·) (Ab 59 (Pg (Ab 26 (gs (Hk 3 4 ·) (Ab 7 (gs (Cn [(6,Cv (Cd Ur) 0,.none)] [0,1,4,5,6,7,8] ⟨Jg 0 4,trivial⟩ ·) (Ab 14 (iH sp3p sp3a (Ab 10 (iG sp3b ?_)))))))))))))
 exact Ab 6 (gs (cG (AeM z hz) ·) (Ab 4 (gs (Cn [(2,_,.none),(5,_,.none),(8,_,.none),(11,_,.none)] [6,7,10,11,12,13,14] ⟨Ld (jV z hz),Ld (jW z hz),Ld (jP z hz),Ld (jQ z hz),trivial⟩ ·) (Ab 59 (Pg (Ab 23 (aN (Ab 17 (Iw (Ab 4 (Nv (r:= .int 1) rfl)))))))))))
theorem AiT (z:Int) (hz:0<=z/\z<=1048576):AF Tryz.prog 35 [Cd Ur,Bf (yR z)] (.int 1):=by
 obtain⟨_,rfl,hA⟩:=AeN z hz
 exact hA
theorem AeU (z:Int) (hz:0<=z/\z<=1048576):∃r,r=AV.int 1/\AF Tryz.prog 190 [Cd Ur,.elt 3 (λxi=>[.lit (.int .i64 0),.lit (.int .i64 0),.lit (.int .i64 z)].getD (0+xi) .top)] r:=by
 refine Au func190 rfl ?_
 exact Ab 9 (gs (Ao (AiT z hz) ·) (Ab 4 (Nv (r:= .int 1) rfl)))
theorem Ajb (z:Int) (hz:0<=z/\z<=1048576):AF Tryz.prog 190 [Cd Ur,.elt 3 (λxi=>[.lit (.int .i64 0),.lit (.int .i64 0),.lit (.int .i64 z)].getD (0+xi) .top)] (.int 1):=by
 obtain⟨_,rfl,hA⟩:=AeU z hz
 exact hA
theorem AbM (h z:Int):∃r,r=AV.bool false/\AF Tryz.prog 201 [hsA (Fa h),.fn 202 [.elt 1 (λxi=>[.fn 190 [.elt 3 (λxi=>[.lit (.int .i64 0),.lit (.int .i64 0),.lit (.int .i64 z)].getD (0+xi) .top)]].getD (0+xi) .top)]] r:=by
 refine Au func201 rfl ?_
 exact Ab 9 (cE func234 (Ab 14 (gs (Ta 0 ·) (Ab 18 (Iw (Ab 5 (Nv (r:= .bool false) rfl)))))))
theorem AeT (h z:Int):AF Tryz.prog 201 [hsA (Fa h),.fn 202 [.elt 1 (λxi=>[.fn 190 [.elt 3 (λxi=>[.lit (.int .i64 0),.lit (.int .i64 0),.lit (.int .i64 z)].getD (0+xi) .top)]].getD (0+xi) .top)]] (.bool false):=by
 obtain⟨_,rfl,hA⟩:=AbM h z
 exact hA
theorem AeV (h z:Int) (hz:0<=z/\z<=h/\h<=1048576):∃r,r=AV.bool true/\AF Tryz.prog 152 [Jw (Fa h),.fn 190 [.elt 3 (λxi=>[.lit (.int .i64 0),.lit (.int .i64 0),.lit (.int .i64 z)].getD (0+xi) .top)]] r:=by
 refine Au func152 rfl ?_
 exact Ab 7 (gs (Wz 1 ·) (Ab 5 (gs (cG (Ajb z ⟨hz.1,ω⟩) ·) (Ab 5 (gs (Ao (AeT h z) ·) (Ab 6 (Nv (r:= .bool true) rfl)))))))
theorem Ajc (h z:Int) (hz:0<=z/\z<=h/\h<=1048576):AF Tryz.prog 152 [Jw (Fa h),.fn 190 [.elt 3 (λxi=>[.lit (.int .i64 0),.lit (.int .i64 0),.lit (.int .i64 z)].getD (0+xi) .top)]] (.bool true):=by
 obtain⟨_,rfl,hA⟩:=AeV h z hz
 exact hA
theorem mT (h z:Int) (hz:0<=z/\z<=h/\h<=1048576):∃r,r=AV.bool true/\AF Tryz.prog 138 [Jw (Fa h),Bf (yR z)] r:=by
 refine Au func138 rfl ?_
 refine Ab 7 (gs (Wz 1 ·) (Ab 8 (Hf 10 ((0:Int)<=z) (λhx1 hx1d=>?_) (λhx1 hx1d=>?_))))
 refine Ab 7 (Hf 17 (z<=h) (λhx2 hx2d=>?_) (λhx2 hx2d=>?_))
 exact Ab 2 (gs (Ao (Ajc h z hz) ·) (Ab 5 (Nv (r:= .bool true) rfl)))
 refine Ab 8 ?_
 exact absurd hz ω
 refine Ab 15 ?_
 exact absurd hz ω
theorem aQ (h z:Int) (hz:0<=z/\z<=h/\h<=1048576):AF Tryz.prog 138 [Jw (Fa h),Bf (yR z)] (.bool true):=by
 obtain⟨_,rfl,hA⟩:=mT h z hz
 exact hA
theorem vT (h z:Int) (hz:0<=z/\z<=h/\h<=1048576):∃r,r=AV.lit (.tuple #[.bool true,.int .i64 0])/\AF Tryz.prog 106 [Jw (Fa h),Bf (yR z),Bf (yR z)] r:=by
 refine Au func106 rfl ?_
 exact Ab 13 (gs (Ao (Ri h ⟨ω,hz.2.2⟩) ·) (Ab 3 (gs (Ao (kD z ⟨hz.1,ω⟩) ·) (Ab 4 (gs (Ao (kD z ⟨hz.1,ω⟩) ·) (Ab 12 (gs (Ao (aQ h z hz) ·) (Ab 4 (gs (Ao (aQ h z hz) ·) (Ab 33 (Nv (r:= .lit (.tuple #[.bool true,.int .i64 0])) rfl)))))))))))
theorem Jm (h z:Int) (hz:0<=z/\z<=h/\h<=1048576):AF Tryz.prog 106 [Jw (Fa h),Bf (yR z),Bf (yR z)] (.lit (.tuple #[.bool true,.int .i64 0])):=by
 obtain⟨_,rfl,hA⟩:=vT h z hz
 exact hA
theorem AbH (h z w:Int) (hz:0<=z/\z<=w/\w<=h/\h<=1048576):∃r,r=AV.bool true/\AF Tryz.prog 79 [bxA (bxZ z w),Jw (Fa h)] r:=by
 refine Au func79 rfl ?_
 refine Ab 17 (Hf 17 (z<0) (λhx1 hx1d=>?_) (λhx1 hx1d=>?_))
 refine Ab 17 ?_
 exact absurd hz ω
 refine Ab 9 (Hf 24 (h<w) (λhx2 hx2d=>?_) (λhx2 hx2d=>?_))
 refine Ab 8 ?_
 exact absurd hz ω
 exact Ab 13 (gs (Ta 0 ·) (Ab 15 (gs (Ao (Wd (bxZ z w)) ·) (Ab 11 (gs (Ta 4 ·) (Ab 18 (gs (Cn [(9,_,.none)] [3,7,9,39] ⟨Be (Jm h z ⟨hz.1,ω⟩),trivial⟩ ·) (Ab 34 (gs (Cn [(9,_,.none)] [3,7,9,39] ⟨Be (Jm h z ⟨hz.1,ω⟩),trivial⟩ ·) (Ab 34 (gs (Cn [(9,_,.none)] [3,7,9,39] ⟨Be (Jm h z ⟨hz.1,ω⟩),trivial⟩ ·) (Ab 34 (gs (Cn [(9,_,.none)] [3,7,9,39] ⟨Be (Jm h z ⟨hz.1,ω⟩),trivial⟩ ·) (Ab 34 (Nv (r:= .bool true) rfl)))))))))))))))
theorem AeS (h z w:Int) (hz:0<=z/\z<=w/\w<=h/\h<=1048576):AF Tryz.prog 79 [bxA (bxZ z w),Jw (Fa h)] (.bool true):=by
 obtain⟨_,rfl,hA⟩:=AbH h z w hz
 exact hA
theorem AbG (h z w:Int) (hz:0<=z/\z<=h/\h<w):∃r,r=AV.bool false/\AF Tryz.prog 79 [bxA (bxZ z w),Jw (Fa h)] r:=by
 refine Au func79 rfl ?_
 refine Ab 17 (Hf 17 (z<0) (λhx1 hx1d=>?_) (λhx1 hx1d=>?_))
 exact Ab 17 (Nv (r:= .bool false) rfl)
 refine Ab 9 (Hf 24 (h<w) (λhx2 hx2d=>?_) (λhx2 hx2d=>?_))
 exact Ab 8 (Nv (r:= .bool false) rfl)
 refine Ab 13 (gs (Ta 0 ·) (Ab 15 (gs (Ao (Wd (bxZ z w)) ·) (Ab 11 (gs (Ta 4 ·) (Ab 18 (gs (Cn [(9,_,.none)] [3,7,9,39] ⟨Be (Jm h z ⟨hz.1,ω⟩),trivial⟩ ·) (Ab 34 (gs (Cn [(9,_,.none)] [3,7,9,39] ⟨Be (Jm h z ⟨hz.1,ω⟩),trivial⟩ ·) (Ab 34 (gs (Cn [(9,_,.none)] [3,7,9,39] ⟨Be (Jm h z ⟨hz.1,ω⟩),trivial⟩ ·) (Ab 34 (gs (Cn [(9,_,.none)] [3,7,9,39] ⟨Be (Jm h z ⟨hz.1,ω⟩),trivial⟩ ·) (Ab 34 ?_))))))))))))))
 exact absurd hz ω
theorem Tb (h z w:Int) (hz:0<=z/\z<=h/\h<w):AF Tryz.prog 79 [bxA (bxZ z w),Jw (Fa h)] (.bool false):=by
 obtain⟨_,rfl,hA⟩:=AbG h z w hz
 exact hA
def CB (s:Sg) (d k:Nat) (z w:Int):Prop:=(0<s.o/\s.o<=9223372036854775807)/\wO s.x s.o d k/\wO s.y s.o d k/\wO s.z s.o d k/\Aoh s d k=bxZ z w
theorem Uz (s:Sg) (d k:Nat) (z w:Int) (h:CB s d k z w):AF Tryz.prog 78 [Lk s,.int (d:Int),.int (k:Int)] (bxA (bxZ z w)):=by
 rw[<-h.2.2.2.2]
 exact Ab8 s d k h.1 h.2.1 h.2.2.1 h.2.2.2.1
theorem Aol (s:Sg) (d k:Nat) (z w h:Int) (m:Nat) (hb:CB s d k z w) (hz:0<=z/\z<=w/\w<=h/\h<=1048576) (_:d<=8):∃r,r=AV.bool true/\AF Tryz.prog 77 [.int (d:Int),.int (k:Int),Hj s,Qf (Fa h),Vh s (Fa h) (m+1)] r:=by
 refine Au func77 rfl ?_
 exact Ab 6 (gs (Cn [(3,_,.none),(5,_,.none)] [7] ⟨Be (Uz s d k z w hb),Be (AeS h z w hz),trivial⟩ ·) (Ab 2 (Nv (r:= .bool true) rfl)))
theorem Acn (s:Sg) (d k:Nat) (z w h:Int) (m:Nat) (hb:CB s d k z w) (hz:0<=z/\z<=w/\w<=h/\h<=1048576) (hd:d<=8):AF Tryz.prog 77 [.int (d:Int),.int (k:Int),Hj s,Qf (Fa h),Vh s (Fa h) (m+1)] (.bool true):=by
 obtain⟨_,rfl,hA⟩:=Aol s d k z w h m hb hz hd
 exact hA
theorem Aoj (s:Sg) (k:Nat) (z w h:Int) (m:Nat) (hb:CB s 8 k z w) (hz:0<=z/\z<=h/\h<w):∃r,r=AV.bool false/\AF Tryz.prog 77 [.int ((8:Nat):Int),.int (k:Int),Hj s,Qf (Fa h),Vh s (Fa h) (m+1)] r:=by
 refine Au func77 rfl ?_
 exact Ab 6 (gs (Cn [(3,_,.none),(5,_,.none)] [7] ⟨Be (Uz s 8 k z w hb),Be (Tb h z w hz),trivial⟩ ·) (Ab 2 (Nv (r:= .bool false) rfl)))
theorem Apw (s:Sg) (k:Nat) (z w h:Int) (m:Nat) (hb:CB s 8 k z w) (hz:0<=z/\z<=h/\h<w):AF Tryz.prog 77 [.int ((8:Nat):Int),.int (k:Int),Hj s,Qf (Fa h),Vh s (Fa h) (m+1)] (.bool false):=by
 obtain⟨_,rfl,hA⟩:=Aoj s k z w h m hb hz
 exact hA
theorem Aok (s:Sg) (d k:Nat) (z w h:Int) (m:Nat) (hb:CB s d k z w) (hz:0<=z/\z<=h/\h<w) (hd:d<8/\k<256) (hl:AF Tryz.prog 77 [.int ((d+1):Int),.int ((2*k):Int),Hj s,Qf (Fa h),Vh s (Fa h) m] (.bool false)):∃r,r=AV.bool false/\AF Tryz.prog 77 [.int (d:Int),.int (k:Int),Hj s,Qf (Fa h),Vh s (Fa h) (m+1)] r:=by
 refine Au func77 rfl ?_
 refine Ab 6 (vsp ((d:Int)<8) (λhx1 hx1d=>?_) (λhx1 hx1d=>?_))
 exact gs (Cn [(3,_,.none),(5,_,.none),(8,.bool true,.none),(12,.int ((d+1:Nat):Int),.none),(14,.int ((2*k:Nat):Int),.none),(15,_,.none)] [7] ⟨Be (Uz s d k z w hb),Be (Tb h z w hz),vC hx1,Ea (.int .i64 (IntKind.wrap .i64 ((d:Int)+1))) η,Ea (.int .i64 (IntKind.wrap .i64 (2*(k:Int)))) η,Ld hl,trivial⟩ ·) (Ab 2 (Nv (r:= .bool false) rfl))
 exact gs (Cn [(3,_,.none),(5,_,.none),(8,.bool false,.none)] [7] ⟨Be (Uz s d k z w hb),Be (Tb h z w hz),vC hx1,trivial⟩ ·) (Ab 2 (Nv (r:= .bool false) rfl))
theorem AjG (s:Sg) (d k:Nat) (z w h:Int) (m:Nat) (hb:CB s d k z w) (hz:0<=z/\z<=h/\h<w) (hd:d<8/\k<256) (hl:AF Tryz.prog 77 [.int ((d+1):Int),.int ((2*k):Int),Hj s,Qf (Fa h),Vh s (Fa h) m] (.bool false)):AF Tryz.prog 77 [.int (d:Int),.int (k:Int),Hj s,Qf (Fa h),Vh s (Fa h) (m+1)] (.bool false):=by
 obtain⟨_,rfl,hA⟩:=Aok s d k z w h m hb hz hd hl
 exact hA
theorem Amm (s:Sg) (d k:Nat) (z w h:Int) (m:Nat) (hb:CB s d k z w) (hz:0<=z/\z<=h/\h<w) (hd:d<8/\k<256) (hl:AF Tryz.prog 77 [.int ((d+1):Int),.int ((2*k):Int),Hj s,Qf (Fa h),Vh s (Fa h) m] (.bool true)) (hr:AF Tryz.prog 77 [.int ((d+1):Int),.int ((2*k+1):Int),Hj s,Qf (Fa h),Vh s (Fa h) m] (.bool false)):∃r,r=AV.bool false/\AF Tryz.prog 77 [.int (d:Int),.int (k:Int),Hj s,Qf (Fa h),Vh s (Fa h) (m+1)] r:=by
 refine Au func77 rfl ?_
 refine Ab 6 (vsp ((d:Int)<8) (λhx1 hx1d=>?_) (λhx1 hx1d=>?_))
 exact gs (Cn [(3,_,.none),(5,_,.none),(8,.bool true,.none),(12,.int ((d+1:Nat):Int),.none),(14,.int ((2*k:Nat):Int),.none),(15,_,.none),(20,.int ((d+1:Nat):Int),.none),(22,.int ((2*k:Nat):Int),.none),(23,.int ((2*k+1:Nat):Int),.none),(24,_,.none)] [7] ⟨Be (Uz s d k z w hb),Be (Tb h z w hz),vC hx1,Ea (.int .i64 (IntKind.wrap .i64 ((d:Int)+1))) η,Ea (.int .i64 (IntKind.wrap .i64 (2*(k:Int)))) η,Ld hl,Ea (.int .i64 (IntKind.wrap .i64 ((d:Int)+1))) η,Ea (.int .i64 (IntKind.wrap .i64 (2*(k:Int)))) η,Ea (.int .i64 (IntKind.wrap .i64 (((2*k:Nat):Int)+1))) η,Ld hr,trivial⟩ ·) (Ab 2 (Nv (r:= .bool false) rfl))
 exact gs (Cn [(3,_,.none),(5,_,.none),(8,.bool false,.none)] [7] ⟨Be (Uz s d k z w hb),Be (Tb h z w hz),vC hx1,trivial⟩ ·) (Ab 2 (Nv (r:= .bool false) rfl))
theorem Aa4 (s:Sg) (d k:Nat) (z w h:Int) (m:Nat) (hb:CB s d k z w) (hz:0<=z/\z<=h/\h<w) (hd:d<8/\k<256) (hl:AF Tryz.prog 77 [.int ((d+1):Int),.int ((2*k):Int),Hj s,Qf (Fa h),Vh s (Fa h) m] (.bool true)) (hr:AF Tryz.prog 77 [.int ((d+1):Int),.int ((2*k+1):Int),Hj s,Qf (Fa h),Vh s (Fa h) m] (.bool false)):AF Tryz.prog 77 [.int (d:Int),.int (k:Int),Hj s,Qf (Fa h),Vh s (Fa h) (m+1)] (.bool false):=by
 obtain⟨_,rfl,hA⟩:=Amm s d k z w h m hb hz hd hl hr
 exact hA
theorem AjI (s:Sg) (h:Int) (hc:AF Tryz.prog 77 [.int 0,.int 0,Hj s,Qf (Fa h),Vh s (Fa h) 9] (.bool true)):∃r,r=AV.bool true/\AF Tryz.prog 48 [Jw (Fa h),Lk s] r:=by
 refine Au func48 rfl ?_
 exact Ab 12 (gs (Wz 0 ·) (gs (Wz 1 ·) (Ab 6 (gs (An4 2 77 (Hj s) (Qf (Fa h)) 10 ·) (Ab 3 (gs (cG hc ·) (Ab 4 (Nv (r:= .bool true) rfl))))))))
theorem jY (s:Sg) (h:Int) (hc:AF Tryz.prog 77 [.int 0,.int 0,Hj s,Qf (Fa h),Vh s (Fa h) 9] (.bool true)):AF Tryz.prog 48 [Jw (Fa h),Lk s] (.bool true):=by
 obtain⟨_,rfl,hA⟩:=AjI s h hc
 exact hA
theorem AjH (s:Sg) (h:Int) (hc:AF Tryz.prog 77 [.int 0,.int 0,Hj s,Qf (Fa h),Vh s (Fa h) 9] (.bool false)):∃r,r=AV.bool false/\AF Tryz.prog 48 [Jw (Fa h),Lk s] r:=by
 refine Au func48 rfl ?_
 exact Ab 12 (gs (Wz 0 ·) (gs (Wz 1 ·) (Ab 6 (gs (An4 2 77 (Hj s) (Qf (Fa h)) 10 ·) (Ab 3 (gs (cG hc ·) (Ab 4 (Nv (r:= .bool false) rfl))))))))
theorem AbA (s:Sg) (h:Int) (hc:AF Tryz.prog 77 [.int 0,.int 0,Hj s,Qf (Fa h),Vh s (Fa h) 9] (.bool false)):AF Tryz.prog 48 [Jw (Fa h),Lk s] (.bool false):=by
 obtain⟨_,rfl,hA⟩:=AjH s h hc
 exact hA
def Js:Sg:=⟨0,1000,1,[0],[0],[0,0,0,5000,-7500,3000]⟩
def sgH:Sg:=⟨1000,2000,1,[0],[0],[500]⟩
def upL:List Sg:=[Js,sgH]
theorem Ja {l:List Int} (h:l.all (λc=>decide (Cg c))=true):∀i,Cg (l.getD i 0):=by
 intro i
 rw[Γ]
 rcases Nat.lt_or_ge i l.length with g|g
 rw[List.getElem?_eq_getElem g]
 exact of_decide_eq_true (List.all_eq_true.1 h _ (List.getElem_mem g))
 rw[List.getElem?_eq_none g]
 exact Rx
def axB (l:List Int) (o:Int) (d k:Nat) (z w:Int):Bool:=decide (0<l.length/\l.length<=6)&&(l.all (λc=>decide (Cg c))&&(decide (d<=8/\k<2^d)&&(decide (-9223372036854775807<=w/\w<=9223372036854775807)&&(decide (aL l o d k=z)&&decide (Lt l o d k= -w)))))
theorem Rm {l:List Int} {o:Int} {d k:Nat} {z w:Int} (h:axB l o d k z w=true):wO l o d k/\aL l o d k=z/\-Lt l o d k=w:=by
 simp only[axB,Bool.and_eq_true,decide_eq_true_eq] at h
 obtain⟨h1,h2,h3,h4,h5,h6⟩:=h
 refine⟨⟨⟨h1.1,h1.2,Ja h2,h3.1,h3.2⟩,?_,?_⟩,h5,?_⟩<;>rw[h6]<;>omega
theorem Ng (s:Sg) (d k:Nat) (z w:Int) (h:(decide (0<s.o/\s.o<=9223372036854775807)&&(axB s.x s.o d k 0 0&&(axB s.y s.o d k 0 0&&axB s.z s.o d k z w)))=true):CB s d k z w:=by
 simp only[Bool.and_eq_true,decide_eq_true_eq] at h
 obtain⟨h1,h2,h3,h4⟩:=h
 refine⟨h1,(Rm h2).1,(Rm h3).1,(Rm h4).1,?_⟩
 show Bx.mk ⟨_,_,_⟩ ⟨_,_,_⟩=Bx.mk ⟨_,_,_⟩ ⟨_,_,_⟩
 rw[(Rm h2).2.1,(Rm h2).2.2,(Rm h3).2.1,(Rm h3).2.2,(Rm h4).2.1,(Rm h4).2.2]
theorem Ac3:AF Tryz.prog 77 [.int ((0:Nat):Int),.int ((0:Nat):Int),Hj Js,Qf (Fa 500),Vh Js (Fa 500) 9] (.bool true):=Acn Js 0 0 0 500 500 8 (Ng Js 0 0 0 500 (by decide+kernel)) δ δ
theorem Acx:AF Tryz.prog 77 [.int ((1:Nat):Int),.int ((0:Nat):Int),Hj Js,Qf (Fa 499),Vh Js (Fa 499) 8] (.bool true):=Acn Js 1 0 0 250 499 7 (Ng Js 1 0 0 250 (by decide+kernel)) δ δ
theorem Acz:AF Tryz.prog 77 [.int ((2:Nat):Int),.int ((2:Nat):Int),Hj Js,Qf (Fa 499),Vh Js (Fa 499) 7] (.bool true):=Acn Js 2 2 250 449 499 6 (Ng Js 2 2 250 449 (by decide+kernel)) δ δ
theorem Ac1:AF Tryz.prog 77 [.int ((3:Nat):Int),.int ((6:Nat):Int),Hj Js,Qf (Fa 499),Vh Js (Fa 499) 6] (.bool true):=Acn Js 3 6 448 492 499 5 (Ng Js 3 6 448 492 (by decide+kernel)) δ δ
theorem xE:AF Tryz.prog 77 [.int ((4:Nat):Int),.int ((14:Nat):Int),Hj Js,Qf (Fa 499),Vh Js (Fa 499) 5] (.bool true):=Acn Js 4 14 491 499 499 4 (Ng Js 4 14 491 499 (by decide+kernel)) δ δ
theorem rQ:AF Tryz.prog 77 [.int ((8:Nat):Int),.int ((240:Nat):Int),Hj Js,Qf (Fa 499),Vh Js (Fa 499) 1] (.bool false):=Apw Js 240 498 500 499 0 (Ng Js 8 240 498 500 (by decide+kernel)) δ
theorem rP:AF Tryz.prog 77 [.int ((7:Nat):Int),.int ((120:Nat):Int),Hj Js,Qf (Fa 499),Vh Js (Fa 499) 2] (.bool false):=AjG Js 7 120 498 500 499 1 (Ng Js 7 120 498 500 (by decide+kernel)) δ δ rQ
theorem xH:AF Tryz.prog 77 [.int ((6:Nat):Int),.int ((60:Nat):Int),Hj Js,Qf (Fa 499),Vh Js (Fa 499) 3] (.bool false):=AjG Js 6 60 498 500 499 2 (Ng Js 6 60 498 500 (by decide+kernel)) δ δ rP
theorem xG:AF Tryz.prog 77 [.int ((5:Nat):Int),.int ((30:Nat):Int),Hj Js,Qf (Fa 499),Vh Js (Fa 499) 4] (.bool false):=AjG Js 5 30 498 500 499 3 (Ng Js 5 30 498 500 (by decide+kernel)) δ δ xH
theorem xF:AF Tryz.prog 77 [.int ((4:Nat):Int),.int ((15:Nat):Int),Hj Js,Qf (Fa 499),Vh Js (Fa 499) 5] (.bool false):=AjG Js 4 15 498 500 499 4 (Ng Js 4 15 498 500 (by decide+kernel)) δ δ xG
theorem Ac2:AF Tryz.prog 77 [.int ((3:Nat):Int),.int ((7:Nat):Int),Hj Js,Qf (Fa 499),Vh Js (Fa 499) 6] (.bool false):=Aa4 Js 3 7 491 500 499 5 (Ng Js 3 7 491 500 (by decide+kernel)) δ δ xE xF
theorem Ac0:AF Tryz.prog 77 [.int ((2:Nat):Int),.int ((3:Nat):Int),Hj Js,Qf (Fa 499),Vh Js (Fa 499) 7] (.bool false):=Aa4 Js 2 3 448 500 499 6 (Ng Js 2 3 448 500 (by decide+kernel)) δ δ Ac1 Ac2
theorem Acy:AF Tryz.prog 77 [.int ((1:Nat):Int),.int ((1:Nat):Int),Hj Js,Qf (Fa 499),Vh Js (Fa 499) 8] (.bool false):=Aa4 Js 1 1 250 500 499 7 (Ng Js 1 1 250 500 (by decide+kernel)) δ δ Acz Ac0
theorem Acw:AF Tryz.prog 77 [.int ((0:Nat):Int),.int ((0:Nat):Int),Hj Js,Qf (Fa 499),Vh Js (Fa 499) 9] (.bool false):=Aa4 Js 0 0 0 500 499 8 (Ng Js 0 0 0 500 (by decide+kernel)) δ δ Acx Acy
theorem cxh:AF Tryz.prog 77 [.int ((0:Nat):Int),.int ((0:Nat):Int),Hj sgH,Qf (Fa 500),Vh sgH (Fa 500) 9] (.bool true):=Acn sgH 0 0 500 500 500 8 (Ng sgH 0 0 500 500 (by decide+kernel)) δ δ
theorem Aml:AF Tryz.prog 48 [Jw (Fa 500),Lk Js] (.bool true):=jY Js 500 Ac3
theorem Amj:AF Tryz.prog 48 [Jw (Fa 500),Lk sgH] (.bool true):=jY sgH 500 cxh
theorem Amk:AF Tryz.prog 48 [Jw (Fa 499),Lk Js] (.bool false):=AbA Js 499 Acw
theorem Anu:Zo Js:=⟨δ,δ,δ,Ja δ,Ja δ,Ja δ⟩
theorem Ant:Zo sgH:=⟨δ,δ,δ,Ja δ,Ja δ,Ja δ⟩
theorem An1:Pp upL:=⟨δ,λi=>by
 match i with
 |0=>exact Anu
 |1=>exact Ant
 |i+2=>exact show Zo Sg.none from⟨δ,δ,δ,Ja (l:=[]) rfl,Ja (l:=[]) rfl,Ja (l:=[]) rfl⟩⟩
theorem An2:Wh upL:=by decide+kernel
theorem Afk:AF Tryz.prog 45 [Fv upL] (.bool true):=by
 have h:=Xl upL An1
 rwa [show bP (Wh upL)=true by unfold bP;exact @decide_eq_true _ (Classical.propDecidable _) An2] at h
theorem AcF:∃r,r=AV.lit (.tuple #[.int .i64 0,.bool false,.int .i64 0])/\AF Tryz.prog 32 [Jw (Fa 500),Fv upL] r:=by
 refine Au func32 rfl ?_
 exact Ab 12 (gs (Ao (Ri 500 δ) ·) (Ab 3 (gs (Ao Afk ·) (Ab 7 (gs (Wz 0 ·) (Ab 4 (cE func46 (Ab 14 (gs (Ta 2 ·) (Ab 22 (gs (Hk 0 2 ·) (Ab 1 (uK func47 (Ab 10 (gs (Ao Aml ·) (Ab 5 (Iw (Ab 33 (gs (Hk 1 2 ·) (Ab 1 (uK func47 (Ab 10 (gs (Ao Amj ·) (Ab 5 (Iw (Ab 29 (Iw (Ab 6 (gs (Ct (.int (max 0 (-1))) .none (Ji (.const (.int .i64 0)) (.tmp 19) #[3,3] κ 0 (-1) κ κ) ·) (Ab 8 (Nv (r:= .lit (.tuple #[.int .i64 0,.bool false,.int .i64 0])) rfl)))))))))))))))))))))))))))))))
theorem Ag5:AF Tryz.prog 32 [Jw (Fa 500),Fv upL] (.lit (.tuple #[.int .i64 0,.bool false,.int .i64 0])):=by
 obtain⟨_,rfl,hA⟩:=AcF
 exact hA
theorem sO:∃r,r=AV.lit (.tuple #[.bool true,.int .i64 0])/\AF Tryz.prog 22 [Jw (Fa 500),Fv upL] r:=by
 refine Au func22 rfl ?_
 exact Ab 11 (gs (Ao Ag5 ·) (Ab 23 (Nv (r:= .lit (.tuple #[.bool true,.int .i64 0])) rfl)))
theorem yB:AF Tryz.prog 22 [Jw (Fa 500),Fv upL] (.lit (.tuple #[.bool true,.int .i64 0])):=by
 obtain⟨_,rfl,hA⟩:=sO
 exact hA
theorem AcE:∃r,r=AV.lit (.tuple #[.int .i64 0,.bool true,.int .i64 0])/\AF Tryz.prog 32 [Jw (Fa 499),Fv upL] r:=by
 refine Au func32 rfl ?_
 exact Ab 12 (gs (Ao (Ri 499 δ) ·) (Ab 3 (gs (Ao Afk ·) (Ab 7 (gs (Wz 0 ·) (Ab 4 (cE func46 (Ab 14 (gs (Ta 1 ·) (Ab 22 (gs (Hk 0 2 ·) (Ab 1 (uK func47 (Ab 10 (gs (Ao Amk ·) (Ab 5 (Iw (Ab 15 (Iw (Ab 6 (gs (Ct (.int (max 0 0)) .none (Ji (.const (.int .i64 0)) (.tmp 19) #[3,3] κ 0 0 κ κ) ·) (Ab 8 (Nv (r:= .lit (.tuple #[.int .i64 0,.bool true,.int .i64 0])) rfl)))))))))))))))))))))))
theorem Ag4:AF Tryz.prog 32 [Jw (Fa 499),Fv upL] (.lit (.tuple #[.int .i64 0,.bool true,.int .i64 0])):=by
 obtain⟨_,rfl,hA⟩:=AcE
 exact hA
theorem sM:∃r,r=AV.lit (.tuple #[.bool false,.int .i64 0])/\AF Tryz.prog 22 [Jw (Fa 499),Fv upL] r:=by
 refine Au func22 rfl ?_
 exact Ab 11 (gs (Ao Ag4 ·) (Ab 23 (Nv (r:= .lit (.tuple #[.bool false,.int .i64 0])) rfl)))
theorem yA:AF Tryz.prog 22 [Jw (Fa 499),Fv upL] (.lit (.tuple #[.bool false,.int .i64 0])):=by
 obtain⟨_,rfl,hA⟩:=sM
 exact hA
def Zj:Pr:=⟨[⟨#[97]⟩],[⟨0,0,0⟩],[⟨⟨#[117,112]⟩,2000,[⟨⟨0,0,500⟩,0,1000,0⟩]⟩]⟩
theorem zX:Xp Zj:=⟨δ,δ,δ,δ,δ⟩
theorem aP:Dq Zj=true:=by decide+kernel
theorem uO:Fi Zj 1 0=upL:=κ
theorem Alm:Ds Zj.acts 1=2000:=by decide
end Go.Proofs.YtihcpmmopejpoaaGreatDoor
namespace Go.Proofs.YtihcpmmopejpoaaGreatDoor
open Go.Proofs.Tryz
open Go.RowKit
theorem Rf (p:Pr) (hp:Xp p) (h:Dq p=true) (hk:0<p.acts.length):AF Tryz.prog 21 [Hs p] (.tup [.sl 1 p.names.length λi=>Fv (Fi p p.acts.length i),.int 0]):=by
 have ho:=Nz h
 refine As func21 rfl λB D0 hA0=>?_
 exact Ae 12 (Ao (Gb p hp) (Ae 4 (Jk 4 (!Dq p) false (by rw[h];rfl) (Ae 7 (Jk 12 (decide ((p.acts.length:Int)=0)) false (decide_eq_false ω) (Ae 10 (Ao (AeH p hp ho) (Ae 5 (Cu)))))))))
abbrev pmA (h:Int):AV:= .agg [Cd (Fa h).o,hsA (Fa h),.int 0,.int h,.int 1000,.int 3000,.int 1]
abbrev Jb (k:Int) (_:Nat):AV:= .lit (.agg #[.int .i64 k,.int .i64 0])
theorem Rh:AF Tryz.prog 11 [Hs Zj] (.bool true):=by
 have h:=Gb Zj zX
 rwa [aP] at h
theorem Xk:AF Tryz.prog 20 [Hs Zj] (.lit (.tuple #[.int .i64 2000,.int .i64 0])):=by
 have h:=kB Zj zX aP
 rw[show Ds Zj.acts Zj.acts.length=2000 from Alm] at h
 exact h
theorem Rg:AF Tryz.prog 21 [Hs Zj] (.tup [.sl 1 1 λi=>Fv (Fi Zj 1 i),.int 0]):=Rf Zj zX aP δ
theorem AmA:AF Tryz.prog 22 [Jw (Fa 500),Fv (Fi Zj 1 0)] (.lit (.tuple #[.bool true,.int .i64 0])):=by
 have h:=yB
 rw[<-uO] at h
 exact h
theorem Ap2:AF Tryz.prog 22 [Jw (Fa 499),Fv (Fi Zj 1 0)] (.lit (.tuple #[.bool false,.int .i64 0])):=by
 have h:=yA
 rw[<-uO] at h
 exact h
theorem Rd (h:Int) (hh:0<=h/\h<=1048576):AF Tryz.prog 9 [pmA h] (.bool true):=by
 refine As func9 rfl λB D0 hA0=>?_
 exact Ae 10 (Ao (Ri h hh) (Ae 5 (Cy (.int .i64 2999) (.int .i64 2999) (Ao (Pj 1000 0 2999 δ) (Ae 4 (Ao (Pj 3000 1 86400000 δ) (Ae 4 (Ao (Pj 1 1 64 δ) (Ae 5 (Cu))))))))))
theorem AmE:AF Tryz.prog 8 [pmA 500,Hs Zj,.int 1000] (.lit (.tuple #[.slice none 0 0,.int .i64 0])):=by
 refine As func8 rfl λB D0 hA0=>?_
 exact Ae 14 (Ao (Rd 500 δ) (Ae 8 (Ao Rh (Ae 7 (Ao (Pj 1000 0 86400000 δ) (Ae 21 (Ao Xk (Ae 27 (Cy (.int .i64 3000) (.int .i64 3000) (Ae 8 (Ta 4 (Ae 14 (Cy (.bool false) (.bool false) (Ae 14 (Cy (.int .i64 1) (.int .i64 1) (Ae 17 (Cy (.bool false) (.bool false) (Ae 14 (Cy (.int .i64 2) (.int .i64 2) (Ae 17 (Cy (.bool false) (.bool false) (Ae 14 (Cy (.int .i64 3) (.int .i64 3) (Ae 17 (Cy (.bool false) (.bool false) (Ae 14 (Cy (.int .i64 4) (.int .i64 4) (Ae 18 (Ao Rg (Ae 16 (Ta 1 (Ae 14 (Hk 0 1 (Ae 10 (Ao AmA (Ae 22 (Cy (.int .i64 1) (.int .i64 1) (Ae 23 (Cu)))))))))))))))))))))))))))))))))))))))
theorem AmF:AF Tryz.prog 8 [pmA 500,Hs Zj,.int 999] (.tup [.sl 2 1 (Jb 2),.int 0]):=by
 refine As func8 rfl λB D0 hA0=>?_
 refine Ae 14 (Ao (Rd 500 δ) (Ae 8 (Ao Rh (Ae 7 (Ao (Pj 999 0 86400000 δ) (Ae 21 (Ao Xk (Ae 27 (Cy (.int .i64 2999) (.int .i64 2999) (Ae 8 (Ta 4 (Ae 14 (Cy (.bool false) (.bool false) (Ae 14 (Cy (.int .i64 1) (.int .i64 1) (Ae 17 (Cy (.bool false) (.bool false) (Ae 14 (Cy (.int .i64 2) (.int .i64 2) (Ae 17 (Cy (.bool true) (.bool true) (Ae 14 (Kf 2 56 2 1 (λ_=> .lit (.agg #[.int .i64 2,.int .i64 0])) ?_)))))))))))))))))))))))
 refine Zg 16 56 56 2 1 2 3 (λ_=> .lit (.agg #[.int .i64 2,.int .i64 0])) (λ_=> .lit (.agg #[.int .i64 2,.int .i64 0])) (λi hi=>rfl) ?_
 exact Ae 5 (Cy (.int .i64 3) (.int .i64 3) (Ae 17 (Cy (.bool false) (.bool false) (Ae 14 (Cy (.int .i64 4) (.int .i64 4) (Ae 18 (Ao Rg (Ae 16 (Ta 1 (Ae 14 (Hk 0 1 (Ae 10 (Ao AmA (Ae 22 (Cy (.int .i64 1) (.int .i64 1) (Ae 22 (iM 3 [6] 56 2 1 (λ_=> .lit (.agg #[.int .i64 2,.int .i64 0])) (Ce λ_ _=>rfl) (Ae 1 (Cu)))))))))))))))))))
theorem AmG:AF Tryz.prog 8 [pmA 500,Hs Zj,.int 1001] (.tup [.sl 2 1 (Jb 3),.int 0]):=by
 refine As func8 rfl λB D0 hA0=>?_
 refine Ae 14 (Ao (Rd 500 δ) (Ae 8 (Ao Rh (Ae 7 (Ao (Pj 1001 0 86400000 δ) (Ae 21 (Ao Xk (Ae 27 (Cy (.int .i64 3001) (.int .i64 3001) (Ae 8 (Ta 4 (Ae 14 (Cy (.bool false) (.bool false) (Ae 14 (Cy (.int .i64 1) (.int .i64 1) (Ae 17 (Cy (.bool false) (.bool false) (Ae 14 (Cy (.int .i64 2) (.int .i64 2) (Ae 17 (Cy (.bool false) (.bool false) (Ae 14 (Cy (.int .i64 3) (.int .i64 3) (Ae 17 (Cy (.bool true) (.bool true) (Ae 14 (Kf 2 56 2 1 (λ_=> .lit (.agg #[.int .i64 3,.int .i64 0])) ?_)))))))))))))))))))))))))))
 refine Zg 16 56 56 2 1 2 3 (λ_=> .lit (.agg #[.int .i64 3,.int .i64 0])) (λ_=> .lit (.agg #[.int .i64 3,.int .i64 0])) (λi hi=>rfl) ?_
 exact Ae 5 (Cy (.int .i64 4) (.int .i64 4) (Ae 18 (Ao Rg (Ae 16 (Ta 1 (Ae 14 (Hk 0 1 (Ae 10 (Ao AmA (Ae 22 (Cy (.int .i64 1) (.int .i64 1) (Ae 22 (iM 3 [6] 56 2 1 (λ_=> .lit (.agg #[.int .i64 3,.int .i64 0])) (Ce λ_ _=>rfl) (Ae 1 (Cu)))))))))))))))
theorem AmH:AF Tryz.prog 8 [pmA 499,Hs Zj,.int 1000] (.tup [.sl 2 1 (Jb 4),.int 0]):=by
 refine As func8 rfl λB D0 hA0=>?_
 refine Ae 14 (Ao (Rd 499 δ) (Ae 8 (Ao Rh (Ae 7 (Ao (Pj 1000 0 86400000 δ) (Ae 21 (Ao Xk (Ae 27 (Cy (.int .i64 3000) (.int .i64 3000) (Ae 8 (Ta 4 (Ae 14 (Cy (.bool false) (.bool false) (Ae 14 (Cy (.int .i64 1) (.int .i64 1) (Ae 17 (Cy (.bool false) (.bool false) (Ae 14 (Cy (.int .i64 2) (.int .i64 2) (Ae 17 (Cy (.bool false) (.bool false) (Ae 14 (Cy (.int .i64 3) (.int .i64 3) (Ae 17 (Cy (.bool false) (.bool false) (Ae 14 (Cy (.int .i64 4) (.int .i64 4) (Ae 18 (Ao Rg (Ae 16 (Ta 1 (Ae 14 (Hk 0 1 (Ae 10 (Ao Ap2 (Ae 22 (Kf 2 56 2 1 (λ_=> .lit (.agg #[.int .i64 4,.int .i64 0])) ?_)))))))))))))))))))))))))))))))))))))
 refine Zg 16 56 56 2 1 2 3 (λ_=> .lit (.agg #[.int .i64 4,.int .i64 0])) (λ_=> .lit (.agg #[.int .i64 4,.int .i64 0])) (λi hi=>rfl) ?_
 exact Ae 5 (Cy (.int .i64 1) (.int .i64 1) (Ae 22 (iM 3 [6] 56 2 1 (λ_=> .lit (.agg #[.int .i64 4,.int .i64 0])) (Ce λ_ _=>rfl) (Ae 1 (Cu)))))
end Go.Proofs.YtihcpmmopejpoaaGreatDoor