/- Part 32 of the proof of PH.card_holds: no condition beyond the row's. -/
import Derived.Test.YtkpjchfniejdoaaGreatDoorPH31
import Derived.Test.YtkpjchfniejdoaaGreatDoorRows
import Derived.LaidMore
import Derived.OpenShut
import Derived.ShutString
import Derived.ChangeOld
import Derived.Lib.LaidTab
import Derived.Stop.Joined
import Derived.HandedShaped
import Derived.Deep.Fields
set_option maxRecDepth 100000
set_option maxHeartbeats 40000000
namespace Go.Proofs.YtkpjchfniejdoaaGreatDoor.Open
open Go.ChangeShapes Go.WideShapes Go.ChangeAt Go.RowKit Go.Deep
section
variable {H:Type} {enc:TypeId×Value->H} {W:World} {n:Nat} {y:DataW H×List MemPlace} {cs:List Value}
theorem AdU (hl:cs.length=3) (h:DataW.trod enc Tryz.prog W 0 (λ_=>true) true n 61 cs=some y):∃a:Ac,AfV W (rg 0 W.heap.size) a cs/\(a.name.size<=maxLen/\Cf a.len):=by
 match cs,hl with
 |[a,b,c],_=>
  obtain⟨m0,z0,h0⟩:=Bf (ty:=9) (off:=0) Tryz.underlying61 h 0 (by rfl)
  obtain⟨m1,z1,h1⟩:=Bf (ty:=3) (off:=1) Tryz.underlying61 h 1 (by rfl)
  obtain⟨m2,z2,h2⟩:=Bf (ty:=59) (off:=2) Tryz.underlying61 h 2 (by rfl)
  simp only[bM,Am3,Akz] at h0 h1 h2
  obtain⟨s,e0,_,hs⟩:=DataW.trod_string Tryz.underlying9 h0
  obtain⟨k1,e1,f1⟩:=Dc h1
  obtain⟨ad,len,cap,e2⟩:=Go.Joins.slice_form Tryz.underlying59 h2
  rw[e2] at h2
  obtain⟨l,g1,g2,g3,_⟩:=Nb Tryz.underlying59 Anr δ h2
  obtain⟨L,L1,L2⟩:=dV (cells:=Mv.cells) l (λcs hc=>by obtain⟨hl,n,y,ht⟩:=g2 cs hc;exact AdV hl ht)
  simp at e0 e1 e2
  refine⟨⟨s,k1,L⟩,⟨.slice ad len cap,by simp[e0,e1,e2],?_⟩,hs,f1⟩
  show Cs W _ 6 _ L.length (mvs L)
  have hL:L.length=len:=by omega
  rw[hL]
  unfold mvs
  rw[<-L2]
  exact g3
theorem sJ:∀(l:List (List Value)) (_:∀cs∈l,∃a:Ac,AfV W (rg 0 W.heap.size) a cs/\(a.name.size<=maxLen/\Cf a.len)),∃L:List Ac,L.length=l.length/\Tl W (rg 0 W.heap.size) L l.flatten/\∀a∈L,(a.name.size<=maxLen/\Cf a.len)
 |[],_=>⟨[],rfl,rfl,by simp⟩
 |cs::l,h=>by
  obtain⟨a,ha,hs⟩:=h cs (by simp)
  obtain⟨L,h1,h2,h3⟩:=sJ l (λc hc=>h c (by simp[hc]))
  refine⟨a::L,by simp[h1],⟨cs,l.flatten,by simp,ha,h2⟩,λx hx=>?_⟩
  rcases List.mem_cons.1 hx with rfl|hx
  exact hs
  exact h3 x hx
theorem open_prog2 {v:Value} {d:DataW H} {p:List MemPlace} {base:Nat} (hv:Value.okWide Tryz.prog W .any base 31 v) (h:DataW.Trod enc Tryz.prog W 0 (λ_=>true) true 31 v d p):
  ∃(vn vh va:Value) (pr:Pr),v= .agg #[vn,vh,va]/\Hx W W.heap.size vn vh va pr/\(∀s∈pr.names,s.size<=maxLen)/\(∀a∈pr.acts,(a.name.size<=maxLen/\Cf a.len)):=by
 obtain⟨v0,v1,v2,y0,y1,y2,n,rfl,_,_,h0,h1,h2⟩:=Go.Joins.open_agg3 Tryz.underlying31 κ κ hv h
 obtain⟨a0,l0,c0,e0⟩:=Go.Joins.slice_form Tryz.underlying28 h0
 obtain⟨a1,l1,c1,e1⟩:=Go.Joins.slice_form Tryz.underlying22 h1
 obtain⟨a2,l2,c2,e2⟩:=Go.Joins.slice_form Tryz.underlying29 h2
 obtain rfl:v0= .slice a0 l0 c0:=by simpa using e0
 obtain rfl:v1= .slice a1 l1 c1:=by simpa using e1
 obtain rfl:v2= .slice a2 l2 c2:=by simpa using e2
 obtain⟨N,hN,sN,_,zN⟩:=Aam h0
 obtain⟨lh,g1,g2,g3,_⟩:=Nb Tryz.underlying22 Ag3 δ h1
 obtain⟨Hm,H1,H2⟩:=dV (cells:=λv:V3=>[.int .i64 v.x,.int .i64 v.y,.int .i64 v.z]) lh (λcs hc=>by obtain⟨hl,n,y,ht⟩:=g2 cs hc;exact iH hl ht)
 obtain⟨la,k1,k2,k3,_⟩:=Nb Tryz.underlying29 Ap7 δ h2
 obtain⟨Ac,A1,A2,A3⟩:=sJ la (λcs hc=>by obtain⟨hl,n,y,ht⟩:=k2 cs hc;exact AdU hl ht)
 refine⟨_,_,_,⟨N,Hm,Ac⟩,rfl,⟨sN,?_,la.flatten,?_,A2⟩,zN,A3⟩
 have hL:Hm.length=l1:=by omega
 show Bv W 0 W.heap.size 3 _ Hm.length (Iz Hm)
 rw[hL]
 unfold Iz
 rw[<-H2]
 exact g3
 have hL:Ac.length=l2:=by omega
 show Bv W 0 W.heap.size 3 _ Ac.length _
 rw[hL]
 exact k3
theorem Ant:Tryz.prog.cellsOf 22=1:=κ
end
end Go.Proofs.YtkpjchfniejdoaaGreatDoor.Open
namespace Go.Proofs.YtkpjchfniejdoaaGreatDoor
open Go.Proofs.Tryz
open Go.RowKit
theorem AbS {w:World} {D:Nat->Prop} {l:List V3} {v:Value} (h:Cs w D 3 v l.length (Iz l)) {E:As} (hw:E.w=w) (hD:∀b,D b->E.D b):VR E (Oi l) v:=
 Ms h hw hD λi j hi hj=>by
  have:=Rb (λv:V3=>[Value.int .i64 v.x,.int .i64 v.y,.int .i64 v.z]) 3 (λ_=>rfl) l i j V3.zero hi hj
  unfold Iz
  rw[this]
  match j,hj with
  |0,_=>exact .lit _ _
  |1,_=>exact .lit _ _
  |2,_=>exact .lit _ _
theorem Aof {w:World} {D:Nat->Prop} {l:List Mv} {v:Value} (h:Cs w D 6 v l.length (mvs l)) {E:As} (hw:E.w=w) (hD:∀b,D b->E.D b):VR E (Aoe l) v:=
 Ms h hw hD λi j hi hj=>by
  have:=Rb Mv.cells 6 (λ_=>rfl) l i j Mv.none hi hj
  unfold mvs
  rw[this]
  match j,hj with
  |0,_=>exact .lit _ _
  |1,_=>exact .lit _ _
  |2,_=>exact .lit _ _
  |3,_=>exact .lit _ _
  |4,_=>exact .lit _ _
  |5,_=>exact .lit _ _
theorem AhW {w:World} {D:Nat->Prop} {l:List ByteArray} {v:Value} (h:Cs w D 1 v l.length (strs l)) {E:As} (hw:E.w=w) (hD:∀b,D b->E.D b):VR E (Jj l) v:=
 Ms h hw hD λi j hi hj=>by
  obtain rfl:j=0:=by omega
  have e:(strs l).getD (i*1+0) undef= .string (l.getD i ByteArray.empty):=by simp[strs,hi]
  rw[e]
  exact .lit _ _
theorem Akk {w:World} {D:Nat->Prop} {l:List Ac} {v:Value} {cs:List Value} (h:Cs w D 3 v l.length cs) (ha:Tl w D l cs) {E:As} (hw:E.w=w) (hD:∀b,D b->E.D b):VR E (Lh l) v:=
 Ms h hw hD λi j hi hj=>by
  obtain⟨vm,hm,hat⟩:=ha.at_ hi
  have e:l.getD i Ac.none=l[i]:=by rw[Γ,List.getElem?_eq_getElem hi];rfl
  have g:∀u,[Value.string l[i].name,.int .i64 l[i].len,vm][j]?=some u->cs.getD (i*3+j) undef=u:=λu hu=>by
   rw[Γ,hat j u hu];rfl
  rw[e]
  match j,hj with
  |0,_=>rw[g _ rfl];exact .lit _ _
  |1,_=>rw[g _ rfl];exact .lit _ _
  |2,_=>rw[g _ rfl];exact Aof (E:=E.fz) hm hw hD
theorem Alz {w:World} {hi:Nat} {vn vh va:Value} {p:Pr} (h:Hx w hi vn vh va p) {E:As} (hw:E.w=w) (hD:∀b,b<hi->E.D b):VR E (Ie p) (.agg #[vn,vh,va]):=by
 obtain⟨cs,k1,k2⟩:=h.acts
 have hD2:∀b,rg 0 hi b->E.D b:=λb hb=>hD b hb.2
 refine .agg _ _ _ rfl λi hi=>?_
 have h3:i<3:=hi
 match i,h3 with
 |0,_=>exact AhW h.names hw hD2
 |1,_=>exact AbS h.homes hw hD2
 |2,_=>exact Akk k1 k2 hw hD2
theorem Apt {f:FuncId} {args args':List AV} {r r':AV} (h:AF Tryz.prog f args r) (hl:args'.length=args.length) (ha:∀i,i<args.length->∀E v,VR E (args'.getD i .top) v->VR E (args.getD i .top) v) (hr:∀E v,VR E r v->VR E r' v):AF Tryz.prog f args' r':=λE vs hD hn hv=>by
 refine Calls.mono (h E vs hD ω λi hi=>ha i hi _ _ (hv i ω)) ?_
 rintro e w' ⟨v,D',h1,h2,h3⟩
 exact⟨v,D',h1,hr _ _ h2,h3⟩
abbrev An3 (p:Nat->Int) (m:Nat) (a b d:Int):Nat->Int:=cN p m a b d (m-1)
theorem rN (p:Nat->Int) (a b d:Int) (ha:Cf a) (hb:Cf b) (hd:Cf d) (hdp:0<d):AF Tryz.prog 155 [Dm 0 p,WA a,WA b,WA d] (.lit (.tuple #[.slice none 0 0,.int .i64 0])):=by
 refine Au func155 rfl λB D0 hA0=>?_
 exact Ae 13 (Ao (Rn 0 p ω (λi hi=>absurd hi (Nat.not_lt_zero i)) (.inl rfl)) (Ae 3 (Ao (Eh _ (Jq ha)) (Ae 4 (Ao (Eh _ (Jq hb)) (Ae 4 (Ao (Eh _ (Jq hd)) (Ae 11 (Ao (Nn d (Jq hd)) (Ae 3 (La 37 (decide (d.sign<=0)) false (decide_eq_false (by rw[Int.sign_eq_one_of_pos hdp];decide)) (Ae 20 (Cm)))))))))))))
theorem VR.nil_poly {E:As} {v:Value} {c:Nat->Int} {e:Int} (h:VR E (.lit (.tuple #[.slice none 0 0,.int .i64 e])) v):VR E (.tup [Dm 0 c,.int e]) v:=by
 have:=h.lit_inv
 subst this
 refine .tup _ _ _ rfl λi hi=>?_
 match i,hi with
 |0,_=>exact .sl0 _ _ _ _ _
 |1,_=>exact .lit _ _
theorem eM (m:Nat) (p:Nat->Int) (a b d:Int) (hm:m<=6) (hp:∀i,Cf (p i)) (hl:m=0\/p (m-1)≠0) (ha:Cf a) (hb:Cf b) (hd:Cf d) (hdp:0<d):AF Tryz.prog 155 [Dm m p,WA a,WA b,WA d] (.tup [Dm (Gz (An3 p m a b d) m) (An3 p m a b d),.int 0]):=by
 cases m with
 |zero=>exact Apt (rN p a b d ha hb hd hdp) rfl (λ_ _ _ _ h=>h) λE v hv=>hv.nil_poly
 |succ k=>exact rO k p a b d ω hp (hl.resolve_left ω) ha hb hd hdp
abbrev ocN (l:List Int):Nat:=Gz (oR l) l.length
abbrev oc1 (l:List Int) (a b d:Int):Nat->Int:=An3 (oR l) (ocN l) a b d
theorem Aol {l:List Int} (h:∀i,Cf (l.getD i 0)) (hn:l.length<=6) {a b d:Int} (ha:Cf a) (hb:Cf b) (hd:Cf d) (i:Nat):Bd 500 (oc1 l a b d i):=by
 have:ocN l<=l.length:=Oe (oR l) l.length
 exact(sW h ha hb hd _ i).mono ω
theorem Aba {y:Int} (h:((Cz y.natAbs).toList==(⟨#[]⟩:ByteArray).toList)=false):0<y.natAbs:=Nat.pos_of_ne_zero λe=>by
 rw[e,To] at h
 simp at h
theorem AaG (x:Int) (k:Int) (hx:Cb x):∃r,Ga [.agg [.b,.s],.one .i] r/\AF Tryz.prog 158 [.lit (Al x),.lit (.int .i64 k)] r:=by
 have hd:=hx.digits
 have h1:=pW x.natAbs k.toNat
 have h2:=pW 1 (0-k).toNat
 have h3:=Ue
 have h4:=Nat.two_pow_pos (0-k).toNat
 have h5:=Ls (decide (x<0)) x.natAbs (1*2^(0-k).toNat)
 refine Av func158 rfl ?_
 refine Ab 11 (gs (Ao (Eh x θ) ·) (Ab 12 (Hg 15 (k< -65536) (λhx1 hx1d=>?_) (λhx1 hx1d=>?_))))
 exact Ab 15 (Bc)
 refine Ab 5 (Hg 18 ((65536:Int)<k) (λhx2 hx2d=>?_) (λhx2 hx2d=>?_))
 exact Ab 10 (Bc)
 refine Ab 6 (gs (Ao (Da x θ) ·) (Ab 11 (Hg 23 ((0:Int)<=k) (λhx3 hx3d=>?_) (λhx3 hx3d=>?_))))
 exact Ab 2 (Dx (Nj (decide (x<0)) (x.natAbs*2^(k).toNat) ω) λv4 hv4=>(gs (Cl [(5,_,.none),(7,_,.none)] [4,5] ⟨Be (eT x.natAbs (k).toNat k ω ω ω),Be hv4,trivial⟩ ·) (Ab 3 (Bc))))
 exact Ab 4 (gs (Cl [(1,.osl 3 1 1,(.new 3 (.vec 151 1 1 (λ_=> .lit (.int .u64 1))))),(3,.int (0-k),.none),(4,Du (1*2^(0-k).toNat),(.drop 3)),(6,_,.none)] [4,7] ⟨Br (Db 226 1 #[(0,(.const (.int .u64 1)))] κ underlying226 1 sizeOf151 _ zeroValue151 κ β β β 3 [.lit (.int .u64 1)] κ (λ_=> .lit (.int .u64 1)) κ),Bk (.int .i64 (IntKind.wrap .i64 (0-k))) (congrArg (Value.int .i64) (IntWalk.i64_in _ ω)),Br (Gj 207 #[.tmp 36,.tmp 38] #[226,3] κ (λ_ _=>by kernel_rfl) 3 (.vec 151 1 1 (λ_=> .lit (.int .u64 1))) κ (λ_ _ _ _ h=>by cases h;exact(Df λ_ _=>rfl)) [.osl 3 1 1,.int (0-k)] κ [.slc 1 1 (λ_=> .lit (.int .u64 1)),.int (0-k)] κ (Du (1*2^(0-k).toNat)) (rV (0-k).toNat (0-k) ω ω)),Be (Ja (decide (x<0)) x.natAbs false (1*2^(0-k).toNat) ω ω ω),trivial⟩ ·) (Ab 4 (Dx (Nj (!decide ((decide (x<0))=false)) (Eu (decide (x<0)) x.natAbs (1*2^(0-k).toNat)) ω) λv5 hv5=>(gs (Ao hv5 ·) (Ab 7 (Bc))))))
theorem wM (a:Rw) (k:Int) (h:Jg a=false):∃r,Ga [.agg [.b,.s],.one .i] r/\AF Tryz.prog 158 [Fv a,.int k] r:=by
 refine Av func158 rfl ?_
 exact Ab 11 (gs (Ao (Gi a) ·) (Ab 3 (jD 11 (!Jg a) true (by rw[h];rfl) (Ab 10 (Bc)))))
theorem AaF (a:Rw) (k:Int):∃r,Ga [.agg [.b,.s],.one .i] r/\AF Tryz.prog 158 [Fv a,.int k] r:=by
 cases h:Jg a with
 |false=>exact wM a k h
 |true=>
  obtain⟨x,hx,ex⟩:=Lw h
  rw[ex]
  exact AaG x k hx
noncomputable def Aj1 (a:Rw) (k:Int):Value:=Kp 158 [.agg [.b,.s],.one .i] [Fv a,.int k]
theorem xW (a:Rw) (k:Int):AF Tryz.prog 158 [Fv a,.int k] (.lit (Hi [.agg [.b,.s],.one .i] (Aj1 a k))):=Bn (AaF a k)
theorem Ad7 (b:Bool) (n:Nat) (c:Bool) (k:Nat) (h0:0<k/\(Aj n).length<=5000/\(Aj k).length<=5000):∃r,Ga [.agg [.b,.s,.b,.s],.one .i] r/\AF Tryz.prog 209 [Dj b n,Dj c k] r:=by
 have hg:0<Nat.gcd n k:=Nat.gcd_pos_of_pos_right n h0.1
 have hg1:=pV (n:=n) h0.1
 have hq1:=Ls b n (Nat.gcd n k)
 have hq2:=Ls c k (Nat.gcd n k)
 refine Av func209 rfl ?_
 refine Ab 9 (gs (Cl [(6,_,.none)] [2,3,4,6] ⟨Be (dK n k ω ω),trivial⟩ ·) (Ab 5 (gs (Ao (Ja b n c (Nat.gcd n k) ω ω ω) ·) (Ab 10 (gs (Ao (Ja c k c (Nat.gcd n k) ω ω ω) ·) (Ab 9 (Dx (Nj (!decide (b=c)) (Eu b n (Nat.gcd n k)) ω) λv1 hv1=>(gs (Ao hv1 ·) (Ab 11 (Dx (Nj (!decide (c=c)) (Eu c k (Nat.gcd n k)) ω) λv2 hv2=>(gs (Ao hv2 ·) (Ab 14 (Ev 43 ?_ ?_)))))))))))))
 exact Ab 15 (Bc)
 refine Ab 5 (Ev 46 ?_ ?_)
 exact Ab 10 (Bc)
 exact Ab 13 (Bc)
noncomputable def Ala (b:Bool) (n:Nat) (c:Bool) (k:Nat):Value:=Kp 209 [.agg [.b,.s,.b,.s],.one .i] [Dj b n,Dj c k]
theorem aB (b:Bool) (n:Nat) (c:Bool) (k:Nat) (h0:0<k/\(Aj n).length<=5000/\(Aj k).length<=5000):AF Tryz.prog 209 [Dj b n,Dj c k] (.lit (Hi [.agg [.b,.s,.b,.s],.one .i] (Ala b n c k))):=Bn (Ad7 b n c k h0)
theorem AeR (x y:Int) (hx:Cb x) (hy:Cb y):∃r,Ga [.agg [.b,.s,.b,.s],.one .i] r/\AF Tryz.prog 160 [.lit (Al x),.lit (Al y)] r:=by
 have hd:=hx.digits
 have he:=hy.digits
 refine Av func160 rfl ?_
 refine Ab 13 (gs (Ao (Hv x y θ θ) ·) (Ab 11 (gs (Bo (.bool ((Cz y.natAbs).toList==(⟨#[]⟩:ByteArray).toList)) (.bool ((Cz y.natAbs).toList==(⟨#[]⟩:ByteArray).toList)) ·) (Ab 2 (tsb 13 ((Cz y.natAbs).toList==(⟨#[]⟩:ByteArray).toList) (λhx1=>?_) (λhx1=>?_))))))
 exact Ab 10 (Bc)
 refine Ab 3 ?_
 have hp:=Aba hx1
 exact Ab 1 (Dx (aB (decide (x<0)) x.natAbs (decide (y<0)) y.natAbs ω) λv2 hv2=>(gs (Cl [(1,_,.none),(3,_,.none),(4,_,.none)] [4,5] ⟨Be (Da x θ),Be (Da y θ),Be hv2,trivial⟩ ·) (Ab 2 (Bc))))
theorem AaE (a:Rw) (b:Rw) (h:(Jg a&&Jg b)=false):∃r,Ga [.agg [.b,.s,.b,.s],.one .i] r/\AF Tryz.prog 160 [Fv a,Fv b] r:=by
 refine Av func160 rfl ?_
 exact Ab 13 (gs (Ao (Qr a b) ·) (Ab 3 (jD 9 (!(Jg a&&Jg b)) true (by rw[h];rfl) (Ab 10 (Bc)))))
theorem AeQ (a:Rw) (b:Rw):∃r,Ga [.agg [.b,.s,.b,.s],.one .i] r/\AF Tryz.prog 160 [Fv a,Fv b] r:=by
 cases h:(Jg a&&Jg b) with
 |false=>exact AaE a b h
 |true=>
  obtain⟨h1,h2⟩:=Bool.and_eq_true_iff.1 h
  obtain⟨x,hx,ex⟩:=Lw h1
  obtain⟨y,hy,ey⟩:=Lw h2
  rw[ex,ey]
  exact AeR x y hx hy
noncomputable def Amu (a:Rw) (b:Rw):Value:=Kp 160 [.agg [.b,.s,.b,.s],.one .i] [Fv a,Fv b]
theorem aE (a:Rw) (b:Rw):AF Tryz.prog 160 [Fv a,Fv b] (.lit (Hi [.agg [.b,.s,.b,.s],.one .i] (Amu a b))):=Bn (AeQ a b)
structure Rr where
 num:Rw
 den:Rw
abbrev Cu (r:Rr):AV:= .lit (.agg #[.bool r.num.neg,.string r.num.mag,.bool r.den.neg,.string r.den.mag])
abbrev Iq (x y:Int):AV:= .lit (.agg #[.bool (decide (x<0)),.string (Cz x.natAbs),.bool (decide (y<0)),.string (Cz y.natAbs)])
def Wc (r:Rr):Prop:=∃x y,Cb x/\Cb y/\0<y/\Cu r=Iq x y
noncomputable def Uj (r:Rr):Bool:=bP (Wc r)
theorem AiM {y:Int} (h:0<y):decide ((0:Int)<y.sign)=true:=decide_eq_true (by rw[Int.sign_eq_one_of_pos h];decide)
theorem Aev {y:Int} (h:¬0<y):decide ((0:Int)<y.sign)=false:=decide_eq_false λg=>by
 by_cases h0:y=0
 subst h0;exact absurd g δ
 rw[Int.sign_eq_neg_one_of_neg ω] at g;exact absurd g δ
theorem Nl (x y:Int) (hx:Cb x) (hy:Cb y) (hp:0<y):AF Tryz.prog 243 [Iq x y] (.bool true):=by
 have hz:=AiM hp
 refine Au func243 rfl λB D0 hA0=>?_
 exact Ae 12 (Ao (Hv x y θ θ) (Ae 3 (Ao (Nn y θ) (Ae 6 (Eb (.bool (decide ((0:Int)<(y).sign))) (congrArg AV.bool hz))))))
theorem xU (x y:Int) (hx:Cb x) (hy:Cb y) (hp:¬0<y):AF Tryz.prog 243 [Iq x y] (.bool false):=by
 have hz:=Aev hp
 refine Au func243 rfl λB D0 hA0=>?_
 exact Ae 12 (Ao (Hv x y θ θ) (Ae 3 (Ao (Nn y θ) (Ae 6 (Eb (.bool (decide ((0:Int)<(y).sign))) (congrArg AV.bool hz))))))
theorem xT (r:Rr) (h:(Jg r.num&&Jg r.den)=false):AF Tryz.prog 243 [Cu r] (.bool false):=by
 refine Au func243 rfl λB D0 hA0=>?_
 exact Ae 12 (Ao (Qr r.num r.den) (Ae 1 (La 8 (Jg r.num&&Jg r.den) false h (Ae 9 (Cm)))))
theorem Aqh {r:Rr} {x y:Int} (h1:Fv r.num=WA x) (h2:Fv r.den=WA y):Cu r=Iq x y:=by
 have e1:Value.agg #[.bool r.num.neg,.string r.num.mag]=Al x:=AV.lit.inj h1
 have e2:Value.agg #[.bool r.den.neg,.string r.den.mag]=Al y:=AV.lit.inj h2
 unfold Al at e1 e2
 simp only[Value.agg.injEq,Array.mk.injEq,List.cons.injEq,Value.bool.injEq,Value.string.injEq,and_true] at e1 e2
 unfold Cu Iq
 rw[e1.1,e1.2,e2.1,e2.2]
theorem Wu (r:Rr):AF Tryz.prog 243 [Cu r] (.bool (Uj r)):=by
 by_cases hr:Wc r
 have e:Uj r=true:=Yg hr
 rw[e]
 obtain⟨x,y,hx,hy,hp,e⟩:=hr
 rw[e]
 exact Nl x y hx hy hp
 have e:Uj r=false:=Ck hr
 rw[e]
 cases h:(Jg r.num&&Jg r.den) with
 |false=>exact xT r h
 |true=>
  obtain⟨h1,h2⟩:=Bool.and_eq_true_iff.1 h
  obtain⟨x,hx,ex⟩:=Lw h1
  obtain⟨y,hy,ey⟩:=Lw h2
  have e2:=Aqh ex ey
  rw[e2]
  exact xU x y hx hy λhp=>hr ⟨x,y,hx,hy,hp,e2⟩
theorem Xj {r:Rr} (h:Uj r=true):Wc r:=sO h
theorem Xt (a b:Rr):AF Tryz.prog 218 [Cu a,Cu b] (.bool (Uj a&&Uj b)):=by
 refine Au func218 rfl λB D0 hA0=>?_
 refine Ae 10 (Ao (Wu a) (Ae 1 (vsb 7 (Uj a) (λhx1=>?_) (λhx1=>?_))))
 ·
  exact Ae 1 (Ao (Wu b) (Ae 5 (Eb (.bool (Uj b)) (congrArg AV.bool (by rw[hx1];rfl)))))
 ·
  exact Ae 7 (Eb (.bool false) (congrArg AV.bool (by rw[hx1];rfl)))
theorem Ti (x y u v:Int) (hx:Cb x) (hy:Cb y) (hu:Cb u) (hv:Cb v) (hyp:0<y) (hvp:0<v):AF Tryz.prog 218 [Iq x y,Iq u v] (.bool true):=by
 refine Au func218 rfl λB D0 hA0=>?_
 exact Ae 10 (Ao (Nl x y θ θ θ) (Ae 2 (Ao (Nl u v θ θ θ) (Ae 5 (Cm)))))
theorem Om (x y u v:Int) (hx:Cb x) (hy:Cb y) (hu:Cb u) (hv:Cb v):AF Tryz.prog 219 [Iq x y,Iq u v] (.tup [Dj (!decide (decide (x<0)=decide (v<0))) (x.natAbs*v.natAbs),Dj (!decide (decide (u<0)=decide (y<0))) (u.natAbs*y.natAbs),Dj (!decide (decide (y<0)=decide (v<0))) (y.natAbs*v.natAbs)]):=by
 have d1:=hx.digits
 have d2:=hy.digits
 have d3:=hu.digits
 have d4:=hv.digits
 refine Au func219 rfl λB D0 hA0=>?_
 exact Ae 10 (Cl [(2,_,.none),(5,_,.none),(6,_,.none),(9,_,.none),(12,_,.none),(13,_,.none),(16,_,.none),(19,_,.none),(20,_,.none)] [4,5,6] ⟨Be (Da x θ),Be (Da v θ),Be (Qs (decide (x<0)) x.natAbs (decide (v<0)) v.natAbs ω ω),Be (Da u θ),Be (Da y θ),Be (Qs (decide (u<0)) u.natAbs (decide (y<0)) y.natAbs ω ω),Be (Da y θ),Be (Da v θ),Be (Qs (decide (y<0)) y.natAbs (decide (v<0)) v.natAbs ω ω),trivial⟩ (Ae 2 (Cm)))
theorem Al9 (x y u v:Int) (hx:Cb x) (hy:Cb y) (hu:Cb u) (hv:Cb v) (hyp:0<y) (hvp:0<v):∃r,Ga [.one .i,.one .i] r/\AF Tryz.prog 167 [Iq x y,Iq u v] r:=by
 have d1:=hx.digits
 have d2:=hy.digits
 have d3:=hu.digits
 have d4:=hv.digits
 have p1:=Ey x.natAbs v.natAbs
 have p2:=Ey u.natAbs y.natAbs
 have p3:=Ey y.natAbs v.natAbs
 have p4:=Ey x.natAbs u.natAbs
 have p5:=Ic (!decide (decide (x<0)=decide (v<0))) (x.natAbs*v.natAbs) (!decide (decide (u<0)=decide (y<0))) (u.natAbs*y.natAbs)
 have p6:=Ic (!decide (decide (x<0)=decide (v<0))) (x.natAbs*v.natAbs) (!!decide (decide (u<0)=decide (y<0))) (u.natAbs*y.natAbs)
 have p7:0<y.natAbs*v.natAbs:=Nat.mul_pos ω ω
 refine Av func167 rfl ?_
 exact Ab 13 (gs (Ao (Ti x y u v θ θ θ θ θ θ) ·) (Ab 10 (gs (Ao (Om x y u v θ θ θ θ) ·) (Ab 13 (Dx (Af8 (Nr (!decide (decide (x<0)=decide (v<0))) (x.natAbs*v.natAbs) (!(!decide (decide (u<0)=decide (y<0)))) (u.natAbs*y.natAbs)) (Ma (!decide (decide (x<0)=decide (v<0))) (x.natAbs*v.natAbs) (!(!decide (decide (u<0)=decide (y<0)))) (u.natAbs*y.natAbs))) λv1 hv1=>(gs (Cl [(2,_,.none),(3,_,.none),(4,_,.none)] [4,5] ⟨Be (Vj (!decide (decide (u<0)=decide (y<0))) (u.natAbs*y.natAbs)),Be (Nh (!decide (decide (x<0)=decide (v<0))) (x.natAbs*v.natAbs) (!(!decide (decide (u<0)=decide (y<0)))) (u.natAbs*y.natAbs) ω ω),Be hv1,trivial⟩ ·) (Ab 2 (Bc))))))))
theorem Ai5 (a:Rr) (b:Rr) (h:(Uj a&&Uj b)=false):∃r,Ga [.one .i,.one .i] r/\AF Tryz.prog 167 [Cu a,Cu b] r:=by
 refine Av func167 rfl ?_
 exact Ab 13 (gs (Ao (Xt a b) ·) (Ab 3 (jD 12 (!(Uj a&&Uj b)) true (by rw[h];rfl) (Ab 9 (Bc)))))
theorem Al8 (a:Rr) (b:Rr):∃r,Ga [.one .i,.one .i] r/\AF Tryz.prog 167 [Cu a,Cu b] r:=by
 cases h:(Uj a&&Uj b) with
 |false=>exact Ai5 a b h
 |true=>
  obtain⟨h1,h2⟩:=Bool.and_eq_true_iff.1 h
  obtain⟨x,y,hx,hy,hyp,ex⟩:=Xj h1
  obtain⟨u,v,hu,hv,hvp,ey⟩:=Xj h2
  rw[ex,ey]
  exact Al9 x y u v hx hy hu hv hyp hvp
noncomputable def Aqb (a:Rr) (b:Rr):Value:=Kp 167 [.one .i,.one .i] [Cu a,Cu b]
theorem AjX (a:Rr) (b:Rr):AF Tryz.prog 167 [Cu a,Cu b] (.lit (Hi [.one .i,.one .i] (Aqb a b))):=Bn (Al8 a b)
theorem Al6 (x y u v:Int) (hx:Cb x) (hy:Cb y) (hu:Cb u) (hv:Cb v) (hyp:0<y) (hvp:0<v):∃r,Ga [.agg [.b,.s,.b,.s],.one .i] r/\AF Tryz.prog 174 [Iq x y,Iq u v] r:=by
 have d1:=hx.digits
 have d2:=hy.digits
 have d3:=hu.digits
 have d4:=hv.digits
 have p1:=Ey x.natAbs v.natAbs
 have p2:=Ey u.natAbs y.natAbs
 have p3:=Ey y.natAbs v.natAbs
 have p4:=Ey x.natAbs u.natAbs
 have p5:=Ic (!decide (decide (x<0)=decide (v<0))) (x.natAbs*v.natAbs) (!decide (decide (u<0)=decide (y<0))) (u.natAbs*y.natAbs)
 have p6:=Ic (!decide (decide (x<0)=decide (v<0))) (x.natAbs*v.natAbs) (!!decide (decide (u<0)=decide (y<0))) (u.natAbs*y.natAbs)
 have p7:0<y.natAbs*v.natAbs:=Nat.mul_pos ω ω
 refine Av func174 rfl ?_
 exact Ab 13 (gs (Ao (Ti x y u v θ θ θ θ θ θ) ·) (Ab 10 (gs (Ao (Om x y u v θ θ θ θ) ·) (Ab 13 (Dx (aB (Nr (!decide (decide (x<0)=decide (v<0))) (x.natAbs*v.natAbs) (!decide (decide (u<0)=decide (y<0))) (u.natAbs*y.natAbs)) (Ma (!decide (decide (x<0)=decide (v<0))) (x.natAbs*v.natAbs) (!decide (decide (u<0)=decide (y<0))) (u.natAbs*y.natAbs)) (!decide (decide (y<0)=decide (v<0))) (y.natAbs*v.natAbs) ω) λv1 hv1=>(gs (Cl [(2,_,.none),(4,_,.none)] [4,5] ⟨Be (Nh (!decide (decide (x<0)=decide (v<0))) (x.natAbs*v.natAbs) (!decide (decide (u<0)=decide (y<0))) (u.natAbs*y.natAbs) ω ω),Be hv1,trivial⟩ ·) (Ab 2 (Bc))))))))
theorem Ai4 (a:Rr) (b:Rr) (h:(Uj a&&Uj b)=false):∃r,Ga [.agg [.b,.s,.b,.s],.one .i] r/\AF Tryz.prog 174 [Cu a,Cu b] r:=by
 refine Av func174 rfl ?_
 exact Ab 13 (gs (Ao (Xt a b) ·) (Ab 3 (jD 12 (!(Uj a&&Uj b)) true (by rw[h];rfl) (Ab 10 (Bc)))))
theorem Al5 (a:Rr) (b:Rr):∃r,Ga [.agg [.b,.s,.b,.s],.one .i] r/\AF Tryz.prog 174 [Cu a,Cu b] r:=by
 cases h:(Uj a&&Uj b) with
 |false=>exact Ai4 a b h
 |true=>
  obtain⟨h1,h2⟩:=Bool.and_eq_true_iff.1 h
  obtain⟨x,y,hx,hy,hyp,ex⟩:=Xj h1
  obtain⟨u,v,hu,hv,hvp,ey⟩:=Xj h2
  rw[ex,ey]
  exact Al6 x y u v hx hy hu hv hyp hvp
noncomputable def Aqa (a:Rr) (b:Rr):Value:=Kp 174 [.agg [.b,.s,.b,.s],.one .i] [Cu a,Cu b]
theorem oA (a:Rr) (b:Rr):AF Tryz.prog 174 [Cu a,Cu b] (.lit (Hi [.agg [.b,.s,.b,.s],.one .i] (Aqa a b))):=Bn (Al5 a b)
theorem AlE (x y u v:Int) (hx:Cb x) (hy:Cb y) (hu:Cb u) (hv:Cb v) (hyp:0<y) (hvp:0<v):∃r,Ga [.agg [.b,.s,.b,.s],.one .i] r/\AF Tryz.prog 175 [Iq x y,Iq u v] r:=by
 have d1:=hx.digits
 have d2:=hy.digits
 have d3:=hu.digits
 have d4:=hv.digits
 have p1:=Ey x.natAbs v.natAbs
 have p2:=Ey u.natAbs y.natAbs
 have p3:=Ey y.natAbs v.natAbs
 have p4:=Ey x.natAbs u.natAbs
 have p5:=Ic (!decide (decide (x<0)=decide (v<0))) (x.natAbs*v.natAbs) (!decide (decide (u<0)=decide (y<0))) (u.natAbs*y.natAbs)
 have p6:=Ic (!decide (decide (x<0)=decide (v<0))) (x.natAbs*v.natAbs) (!!decide (decide (u<0)=decide (y<0))) (u.natAbs*y.natAbs)
 have p7:0<y.natAbs*v.natAbs:=Nat.mul_pos ω ω
 refine Av func175 rfl ?_
 exact Ab 13 (gs (Ao (Ti x y u v θ θ θ θ θ θ) ·) (Ab 7 (Dx (aB (!decide ((decide (x<0))=(decide (u<0)))) (x.natAbs*u.natAbs) (!decide ((decide (y<0))=(decide (v<0)))) (y.natAbs*v.natAbs) ω) λv1 hv1=>(gs (Cl [(2,_,.none),(5,_,.none),(6,_,.none),(9,_,.none),(12,_,.none),(13,_,.none),(14,_,.none)] [4,5] ⟨Be (Da x θ),Be (Da u θ),Be (Qs (decide (x<0)) x.natAbs (decide (u<0)) u.natAbs ω ω),Be (Da y θ),Be (Da v θ),Be (Qs (decide (y<0)) y.natAbs (decide (v<0)) v.natAbs ω ω),Be hv1,trivial⟩ ·) (Ab 2 (Bc))))))
theorem AiA (a:Rr) (b:Rr) (h:(Uj a&&Uj b)=false):∃r,Ga [.agg [.b,.s,.b,.s],.one .i] r/\AF Tryz.prog 175 [Cu a,Cu b] r:=by
 refine Av func175 rfl ?_
 exact Ab 13 (gs (Ao (Xt a b) ·) (Ab 3 (jD 9 (!(Uj a&&Uj b)) true (by rw[h];rfl) (Ab 10 (Bc)))))
theorem AlD (a:Rr) (b:Rr):∃r,Ga [.agg [.b,.s,.b,.s],.one .i] r/\AF Tryz.prog 175 [Cu a,Cu b] r:=by
 cases h:(Uj a&&Uj b) with
 |false=>exact AiA a b h
 |true=>
  obtain⟨h1,h2⟩:=Bool.and_eq_true_iff.1 h
  obtain⟨x,y,hx,hy,hyp,ex⟩:=Xj h1
  obtain⟨u,v,hu,hv,hvp,ey⟩:=Xj h2
  rw[ex,ey]
  exact AlE x y u v hx hy hu hv hyp hvp
noncomputable def Aqf (a:Rr) (b:Rr):Value:=Kp 175 [.agg [.b,.s,.b,.s],.one .i] [Cu a,Cu b]
theorem oB (a:Rr) (b:Rr):AF Tryz.prog 175 [Cu a,Cu b] (.lit (Hi [.agg [.b,.s,.b,.s],.one .i] (Aqf a b))):=Bn (AlD a b)
theorem Aek (x y:Int) (hx:Cb x) (hy:Cb y) (hyp:0<y):∃r,Ga [.agg [.b,.s],.one .i] r/\AF Tryz.prog 210 [Iq x y] r:=by
 have hd:=hx.digits
 have he:=hy.digits
 have p5:=Ls (decide (x<0)) x.natAbs y.natAbs
 refine Av func210 rfl ?_
 exact Ab 11 (gs (Ao (Nl x y θ θ θ) ·) (Ab 7 (gs (Cl [(2,_,.none),(5,_,.none),(6,_,.none)] [2,4] ⟨Be (Da x θ),Be (Da y θ),Be (Ja (decide (x<0)) x.natAbs (decide (y<0)) y.natAbs ω ω ω),trivial⟩ ·) (Ab 4 (Dx (Nj (!decide ((decide (x<0))=(decide (y<0)))) (Eu (decide (x<0)) x.natAbs y.natAbs) ω) λv1 hv1=>(gs (Ao hv1 ·) (Ab 7 (Bc))))))))
theorem Aav (a:Rr) (h:Uj a=false):∃r,Ga [.agg [.b,.s],.one .i] r/\AF Tryz.prog 210 [Cu a] r:=by
 refine Av func210 rfl ?_
 exact Ab 11 (gs (Ao (Wu a) ·) (Ab 3 (jD 8 (!Uj a) true (by rw[h];rfl) (Ab 10 (Bc)))))
theorem Aej (a:Rr):∃r,Ga [.agg [.b,.s],.one .i] r/\AF Tryz.prog 210 [Cu a] r:=by
 cases h:Uj a with
 |false=>exact Aav a h
 |true=>
  obtain⟨x,y,hx,hy,hyp,ex⟩:=Xj h
  rw[ex]
  exact Aek x y hx hy hyp
noncomputable def AlC (a:Rr):Value:=Kp 210 [.agg [.b,.s],.one .i] [Cu a]
theorem Acy (a:Rr):AF Tryz.prog 210 [Cu a] (.lit (Hi [.agg [.b,.s],.one .i] (AlC a))):=Bn (Aej a)
theorem AeM (a:Rw) (h:Jg a=false):∃r,Ga [.one .i,.one .i] r/\AF Tryz.prog 211 [Fv a] r:=by
 refine Av func211 rfl ?_
 exact Ab 11 (gs (Ao (Gi a) ·) (Ab 3 (jD 7 (!Jg a) true (by rw[h];rfl) (Ab 9 (Bc)))))
theorem Ajr (a:Rw):∃r,Ga [.one .i,.one .i] r/\AF Tryz.prog 211 [Fv a] r:=by
 cases h:Jg a with
 |false=>exact AeM a h
 |true=>
  obtain⟨x,hx,ex⟩:=Lw h
  rw[ex]
  exact⟨.lit (.tuple #[.int .i64 (iR x),.int .i64 (iE x)]),rfl,sC x hx⟩
noncomputable def AoV (a:Rw):Value:=Kp 211 [.one .i,.one .i] [Fv a]
theorem AfK (a:Rw):AF Tryz.prog 211 [Fv a] (.lit (Hi [.one .i,.one .i] (AoV a))):=Bn (Ajr a)
def Tz (x y:Int):Int:=(Nat.gcd x.natAbs y.natAbs:Int)
theorem Aht {x y:Int} (h:0<y):0<Nat.gcd x.natAbs y.natAbs:=Nat.gcd_pos_of_pos_right _ ω
theorem AiL (x:Int) {g:Nat} (hg:0<g):Dw (!decide (decide (x<0)=false)) (Eu (decide (x<0)) x.natAbs g)=x/(g:Int):=by
 have:=(Zo x (g:Int) ω).1
 rwa [show decide ((g:Int)<0)=false from decide_eq_false ω,Int.natAbs_natCast] at this
theorem AiK {y:Int} (hy:0<y) {g:Nat} (hg:0<g):Dw (!decide (false=false)) (Eu false y.natAbs g)=y/(g:Int):=by
 have:=(Zo y (g:Int) ω).1
 rwa [show decide ((g:Int)<0)=false from decide_eq_false ω,show decide (y<0)=false from decide_eq_false ω,Int.natAbs_natCast] at this
abbrev AhP (x y:Int):Value:= .tuple #[.agg #[.bool (decide (x/Tz x y<0)),.string (Cz (x/Tz x y).natAbs),.bool (decide (y/Tz x y<0)),.string (Cz (y/Tz x y).natAbs)],.int .i64 0]
theorem xP (x y:Int) (hx:Cb x) (hy:Cb y) (hp:0<y):AF Tryz.prog 209 [Dj (decide (x<0)) x.natAbs,Dj false y.natAbs] (.lit (AhP x y)):=by
 have hd:=hx.digits
 have he:=hy.digits
 have hg:=Aht (x:=x) hp
 have h1:=uD x.natAbs y.natAbs
 have h2:=Ls (decide (x<0)) x.natAbs (Nat.gcd x.natAbs y.natAbs)
 have h3:=Ls false y.natAbs (Nat.gcd x.natAbs y.natAbs)
 have z1:Dw (!decide ((decide (x<0))=false)) (Eu (decide (x<0)) x.natAbs (Nat.gcd x.natAbs y.natAbs))=x/Tz x y:=AiL x hg
 have z2:Dw (!decide (false=false)) (Eu false y.natAbs (Nat.gcd x.natAbs y.natAbs))=y/Tz x y:=AiK hp hg
 have f1:Cb (x/Tz x y):=Se hx
 have f2:Cb (y/Tz x y):=Se hy
 have e1:decide ((Ir (Dw (!decide ((decide (x<0))=false)) (Eu (decide (x<0)) x.natAbs (Nat.gcd x.natAbs y.natAbs))))=0)=true:=decide_eq_true (by rw[z1];exact Jw f1)
 have e2:decide ((Ir (Dw (!decide (false=false)) (Eu false y.natAbs (Nat.gcd x.natAbs y.natAbs))))=0)=true:=decide_eq_true (by rw[z2];exact Jw f2)
 refine Au func209 rfl λB D0 hA0=>?_
 exact Ae 9 (Cl [(6,_,.none)] [2,3,4,6] ⟨Be (dK x.natAbs y.natAbs ω ω),trivial⟩ (Ae 5 (Ao (Ja (decide (x<0)) x.natAbs false (Nat.gcd x.natAbs y.natAbs) ω ω ω) (Ae 10 (Ao (Ja false y.natAbs false (Nat.gcd x.natAbs y.natAbs) ω ω ω) (Ae 9 (Ao (Fl (!decide ((decide (x<0))=false)) (Eu (decide (x<0)) x.natAbs (Nat.gcd x.natAbs y.natAbs)) ω) (Ae 11 (Ao (Fl (!decide (false=false)) (Eu false y.natAbs (Nat.gcd x.natAbs y.natAbs)) ω) (Ae 14 (La 43 (!decide (Ir (Dw (!decide ((decide (x<0))=false)) (Eu (decide (x<0)) x.natAbs (Nat.gcd x.natAbs y.natAbs)))=0)) false (by rw[e1];rfl) (Ae 5 (La 46 (!decide (Ir (Dw (!decide (false=false)) (Eu false y.natAbs (Nat.gcd x.natAbs y.natAbs)))=0)) false (by rw[e2];rfl) (Ae 13 (Eb (.lit (.tuple #[.agg #[.bool (decide (Ha (Dw (!decide ((decide (x<0))=false)) (Eu (decide (x<0)) x.natAbs (Nat.gcd x.natAbs y.natAbs)))<0)),.string (Cz (Ha (Dw (!decide ((decide (x<0))=false)) (Eu (decide (x<0)) x.natAbs (Nat.gcd x.natAbs y.natAbs)))).natAbs),.bool (decide (Ha (Dw (!decide (false=false)) (Eu false y.natAbs (Nat.gcd x.natAbs y.natAbs)))<0)),.string (Cz (Ha (Dw (!decide (false=false)) (Eu false y.natAbs (Nat.gcd x.natAbs y.natAbs)))).natAbs)],.int .i64 0])) (by rw[z1,z2,Gd f1,Gd f2]))))))))))))))))
theorem xQ (x y:Int) (hx:Cb x) (hy:Cb y) (hp:0<y):AF Tryz.prog 209 [Dj (decide (x<0)) x.natAbs,Dj (decide (y<0)) y.natAbs] (.lit (AhP x y)):=by
 have h:=xP x y hx hy hp
 rw[show decide (y<0)=false from decide_eq_false ω]
 exact h
theorem Wv (x y:Int) (hx:Cb x) (hy:Cb y) (hp:0<y):AF Tryz.prog 160 [WA x,WA y] (.lit (AhP x y)):=by
 have hb:((Cz y.natAbs).toList==(⟨#[]⟩:ByteArray).toList)=false:=yJ ω
 refine Au func160 rfl λB D0 hA0=>?_
 refine Ae 13 (Ao (Hv x y θ θ) (Ae 11 (Bo (.bool ((Cz y.natAbs).toList==(⟨#[]⟩:ByteArray).toList)) (.bool false) ?_ (congrArg Value.bool hb))))
 exact Ae 6 (Cl [(1,_,.none),(3,_,.none),(4,_,.none)] [4,5] ⟨Be (Da x θ),Be (Da y θ),Be (xQ x y hx hy hp),trivial⟩ (Ae 2 (Cm)))
theorem AlP (b:Bool) (n:Nat):Dw (!b) n= -Dw b n:=by unfold Dw;cases b<;>simp
theorem AfC (x y u v:Int) (hx:Cb x) (hy:Cb y) (hu:Cb u) (hv:Cb v) (hyp:0<y) (hvp:0<v):AF Tryz.prog 167 [Iq x y,Iq u v] (.lit (.tuple #[.int .i64 (x*v-u*y).sign,.int .i64 0])):=by
 have d1:=hx.digits
 have d2:=hy.digits
 have d3:=hu.digits
 have d4:=hv.digits
 have p1:=Ey x.natAbs v.natAbs
 have p2:=Ey u.natAbs y.natAbs
 have p5:=Ic (!decide (decide (x<0)=decide (v<0))) (x.natAbs*v.natAbs) (!(!decide (decide (u<0)=decide (y<0)))) (u.natAbs*y.natAbs)
 have z:Dw (Nr (!decide (decide (x<0)=decide (v<0))) (x.natAbs*v.natAbs) (!(!decide (decide (u<0)=decide (y<0)))) (u.natAbs*y.natAbs)) (Ma (!decide (decide (x<0)=decide (v<0))) (x.natAbs*v.natAbs) (!(!decide (decide (u<0)=decide (y<0)))) (u.natAbs*y.natAbs))=x*v-u*y:=by rw[qT,iV,AlP,iV];omega
 refine Au func167 rfl λB D0 hA0=>?_
 exact Ae 13 (Ao (Ti x y u v hx hy hu hv hyp hvp) (Ae 10 (Ao (Om x y u v hx hy hu hv) (Ae 13 (Cl [(2,_,.none),(3,_,.none),(4,_,.none)] [4,5] ⟨Be (Vj (!decide (decide (u<0)=decide (y<0))) (u.natAbs*y.natAbs)),Be (Nh (!decide (decide (x<0)=decide (v<0))) (x.natAbs*v.natAbs) (!(!decide (decide (u<0)=decide (y<0)))) (u.natAbs*y.natAbs) ω ω),Be (aC (Nr (!decide (decide (x<0)=decide (v<0))) (x.natAbs*v.natAbs) (!(!decide (decide (u<0)=decide (y<0)))) (u.natAbs*y.natAbs)) (Ma (!decide (decide (x<0)=decide (v<0))) (x.natAbs*v.natAbs) (!(!decide (decide (u<0)=decide (y<0)))) (u.natAbs*y.natAbs)) ω),trivial⟩ (Ae 2 (Eb (.lit (.tuple #[.int .i64 ((Dw (Nr (!decide (decide (x<0)=decide (v<0))) (x.natAbs*v.natAbs) (!(!decide (decide (u<0)=decide (y<0)))) (u.natAbs*y.natAbs)) (Ma (!decide (decide (x<0)=decide (v<0))) (x.natAbs*v.natAbs) (!(!decide (decide (u<0)=decide (y<0)))) (u.natAbs*y.natAbs))).sign),.int .i64 0])) (by rw[z]))))))))
theorem xR (x y:Int) (hx:Cb x) (hy:Cb y) (hp:0<y):AF Tryz.prog 210 [Iq x y] (.lit (.tuple #[Al (x/y),.int .i64 0])):=by
 have hd:=hx.digits
 have he:=hy.digits
 have hm0:0<y.natAbs:=by omega
 have h1:=Ls (decide (x<0)) x.natAbs y.natAbs
 have z:=(Zo x y ω).1
 have f1:Cb (x/y):=Se hx
 refine Au func210 rfl λB D0 hA0=>?_
 exact Ae 11 (Ao (Nl x y hx hy hp) (Ae 7 (Cl [(2,_,.none),(5,_,.none),(6,_,.none)] [2,4] ⟨Be (Da x θ),Be (Da y θ),Be (Ja (decide (x<0)) x.natAbs (decide (y<0)) y.natAbs ω ω ω),trivial⟩ (Ae 4 (Ao (Fl (!decide ((decide (x<0))=(decide (y<0)))) (Eu (decide (x<0)) x.natAbs y.natAbs) ω) (Ae 7 (Eb (.lit (.tuple #[Al (Ha (Dw (!decide ((decide (x<0))=(decide (y<0)))) (Eu (decide (x<0)) x.natAbs y.natAbs))),.int .i64 (Ir (Dw (!decide ((decide (x<0))=(decide (y<0)))) (Eu (decide (x<0)) x.natAbs y.natAbs)))])) (by rw[z,Gd f1,Jw f1]))))))))
theorem AlQ (x:Int) (k:Nat):Dw (decide (x<0)) (x.natAbs*2^k)=x*((2^k:Nat):Int):=by
 have h:=Ki x
 unfold Dw at h ⊢
 by_cases hx:x<0
 rw[if_pos (by simpa using hx)] at h ⊢
 rw[Int.natCast_mul,<-Int.neg_mul,h]
 rw[if_neg (by simpa using hx)] at h ⊢
 rw[Int.natCast_mul,h]
theorem fA (x:Int) (k:Nat) (hx:Cb x) (hk:k<=60000) (hf:Cb (x*((2^k:Nat):Int))):AF Tryz.prog 158 [WA x,.int (k:Int)] (.lit (.tuple #[Al (x*((2^k:Nat):Int)),.int .i64 0])):=by
 have hd:=hx.digits
 have h1:=pW x.natAbs k
 refine Au func158 rfl λB D0 hA0=>?_
 exact Ae 11 (Ao (Eh x θ) (Ae 12 (La 15 (decide ((k:Int)< -65536)) false (decide_eq_false ω) (Ae 5 (La 18 (decide ((65536:Int)<(k:Int))) false (decide_eq_false ω) (Ae 6 (Ao (Da x θ) (Ae 11 (La 23 (decide ((0:Int)<=(k:Int))) true (decide_eq_true ω) (Ae 2 (Cl [(5,_,.none),(7,_,.none)] [4,5] ⟨Be (eT x.natAbs k (k:Int) rfl ω ω),Be (Fl (decide (x<0)) (x.natAbs*2^k) ω),trivial⟩ (Ae 3 (Eb (.lit (.tuple #[Al (Ha (Dw (decide (x<0)) (x.natAbs*2^k))),.int .i64 (Ir (Dw (decide (x<0)) (x.natAbs*2^k)))])) (by rw[AlQ,Gd hf,Jw hf]))))))))))))))
structure Ws where
 n:Nat
 f:Nat->Rw
abbrev Qp (l:Ws):AV:= .sl 2 l.n λi=>Fv (l.f i)
abbrev wsZ (n:Nat) (c:Nat->Int):Ws:=⟨n,λi=>⟨decide (c i<0),Cz (c i).natAbs⟩⟩
def Amk (g:Nat->Rw) (j:Nat) (r:Rw):Nat->Rw:=λk=>if k=j then r else g k
theorem Aml (g:Nat->Rw) (j:Nat) (r:Rw) (k:Nat):(if k=j then Fv r else Fv (g k))=Fv (Amk g j r k):=by unfold Amk;by_cases h:k=j<;>simp[h]
theorem rw0:AV.lit (Al 0)=Fv ⟨false,⟨#[]⟩⟩:=by
 show AV.lit (Al 0)= .lit (.agg #[.bool false,.string ⟨#[]⟩])
 unfold Al
 rw[show (0:Int).natAbs=0 from rfl,To];rfl
theorem Alx (s:Rw) (a:Rw) (k:Int):∃r,Ga [.agg [.b,.s]] r/\AF Tryz.prog 239 [Fv s,Fv a,.int k] r:=by
 refine Av func239 rfl ?_
 exact Ab 8 (Dx (Mj k) λv1 hv1=>(Dx (eZ a (⟨(gB (gT v1 0)),(gS (gT v1 1))⟩)) λv2 hv2=>(gs (Cl [(2,_,.none),(3,_,.none)] [3,4,6] ⟨Be hv1,Be hv2,trivial⟩ ·) (Ab 5 (Dx (rZ s (⟨(gB (gT (gT v2 0) 0)),(gS (gT (gT v2 0) 1))⟩)) λv3 hv3=>(gs (Ao hv3 ·) (Ab 13 (Bc))))))))
noncomputable def ApT (s:Rw) (a:Rw) (k:Int):Value:=Kp 239 [.agg [.b,.s]] [Fv s,Fv a,.int k]
theorem AjW (s:Rw) (a:Rw) (k:Int):AF Tryz.prog 239 [Fv s,Fv a,.int k] (.lit (Hi [.agg [.b,.s]] (ApT s a k))):=Bn (Alx s a k)
theorem Amr (n:Int) (k:Nat) (h0:k<=1000000):∃r,Ga [.one .i] r/\AF Tryz.prog 240 [.int n,.int (k:Int)] r:=by
 refine Av func240 rfl ?_
 refine Ab 18 (Vr [0,5,7,8] (λm s=>∃i w,m=k-i/\(i<=k)/\s=⟨[(0,.int n),(5,.int w),(7,.int (k:Int)),(8,.int (i:Int))],[],0,21⟩) (k-0) ⟨0,1,rfl,Nat.zero_le _,κ⟩ ?_)
 rintro _ _ ⟨i,w,rfl,hF,rfl⟩ hJ1
 refine Ab 6 (Hg 9 ((i:Int)<(k:Int)) (λhx1 hx1d=>?_) (λhx1 hx1d=>?_))
 exact Ab 18 (gs (Dd ((i:Int)+1) ((i+1:Nat):Int) ·) (gs (Aqv (Ai (w*(Ai (n-(i:Int))))) ((i+1:Nat):Int) ω ·) (Ab 5 (gs (Dd ((i:Int)+1) ((i+1:Nat):Int) ·) (Ab 2 (nN [0,5,7,8] (hJ1 _ _ (by omega:k-(i+1)<k-i) ⟨i+1,(Ai (Int.tdiv (Ai (w*(Ai (n-(i:Int))))) ((i+1:Nat):Int))),rfl,ω,rfl⟩)))))))
 exact Ab 13 (Bc)
noncomputable def Aq0 (n:Int) (k:Nat):Value:=Kp 240 [.one .i] [.int n,.int (k:Int)]
theorem AaR (n:Int) (k:Nat) (h0:k<=1000000):AF Tryz.prog 240 [.int n,.int (k:Int)] (.lit (Hi [.one .i] (Aq0 n k))):=Bn (Amr n k h0)
theorem Aho (l:Ws) (h0:l.n<=1000000):∃r,Ga [.one .i] r/\AF Tryz.prog 203 [Qp l] r:=by
 refine Av func203 rfl ?_
 refine Ab 19 (Vr [3,6,7,8] (λm s=>∃i w,m=l.n-i/\(i<=l.n)/\s=⟨[(3,.int w),(6,Qp l),(7,.int (l.n:Int)),(8,.int (i:Int))],[],0,18⟩) (l.n-0) ⟨0,0,rfl,Nat.zero_le _,κ⟩ ?_)
 rintro _ _ ⟨i,w,rfl,hF,rfl⟩ hJ1
 refine Ab 6 (Hg 9 ((i:Int)<(l.n:Int)) (λhx1 hx1d=>?_) (λhx1 hx1d=>?_))
 exact Ab 7 (gs (Fd i l.n ·) (Ab 8 (Dx (AfL (l.f i)) λv2 hv2=>(gs (Ao hv2 ·) (gs (Ci (.int (max w (gI v2))) .none (Ip (.tmp 12) (.tmp 14) #[3,3] κ w (gI v2) κ κ) ·) (Ab 5 (gs (Dd ((i:Int)+1) ((i+1:Nat):Int) ·) (Ab 2 (Fw [3,6,7,8] [] 0 [] trivial (hJ1 _ _ (by omega:l.n-(i+1)<l.n-i) ⟨i+1,(max w (gI v2)),rfl,ω,rfl⟩))))))))))
 exact Ab 13 (Bc)
noncomputable def AnK (l:Ws):Value:=Kp 203 [.one .i] [Qp l]
theorem rR (l:Ws) (h0:l.n<=1000000):AF Tryz.prog 203 [Qp l] (.lit (Hi [.one .i] (AnK l))):=Bn (Aho l h0)
instance:Nonempty Ws:=⟨⟨0,λ_=>⟨false,⟨#[]⟩⟩⟩⟩
theorem Aoo (p:Ws) (d:Nat) (hp:p.n<=25) (hd:d<=24):∃r,(∃w:Ws,w.n=d+1/\r=Qp w)/\AF Tryz.prog 204 [Qp p,.int (d:Int)] r:=by
 refine Av func204 rfl ?_
 refine Ab 8 (gs (Dd ((d:Int)+1) ((d+1:Nat):Int) ·) (gs (Ci (.osl 0 2 (d+1)) (.new 0 (.vec 197 2 (d+1) (λ_=> .lit (Al 0)))) (Qg 297 (.tmp 9) (.tmp 9) κ underlying297 2 24 (.agg #[.bool false,.string ⟨#[]⟩]) κ κ δ ((d+1:Nat):Int) (d+1) ω κ κ ω ω ω 0 (.lit (Al 0)) κ) ·) (Ab 12 (gs (kM 0 197 2 (d+1) (λ_=> .lit (Al 0)) (λxi=>Fv ((λ_=>⟨false,⟨#[]⟩⟩) xi)) (λx9 hx9=>rw0) ·) (Vr [0,1,5,12,13] (λm s=>∃j g,m=d+1-j/\(j<=d+1)/\s=⟨[(0,Qp p),(1,.int (d:Int)),(5,.osl 0 2 (d+1)),(12,.int ((d+1:Nat):Int)),(13,.int (j:Int))],[(0,.vec 197 2 (d+1) (λxi=>Fv (g xi)))],1,48⟩) (d+1-0) ⟨0,(λ_=>⟨false,⟨#[]⟩⟩),rfl,Nat.zero_le _,κ⟩ ?_)))))
 rintro _ _ ⟨j,g,rfl,hF,rfl⟩ hJ1
 refine Ab 6 (Hg 14 ((j:Int)<((d+1:Nat):Int)) (λhx1 hx1d=>?_) (λhx1 hx1d=>?_))
 refine Ab 17 (Vr [0,1,5,6,7,12,13] (λm s=>∃i q,m=j+1-i/\(i<=j+1)/\s=⟨[(0,Qp p),(1,.int (d:Int)),(5,.osl 0 2 (d+1)),(6,.int (j:Int)),(7,.int (i:Int)),(12,.int ((d+1:Nat):Int)),(13,.int (j:Int))],[(0,.vec 197 2 (d+1) (λxi=>Fv (q xi)))],1,48⟩) (j+1-0) ⟨0,g,rfl,Nat.zero_le _,κ⟩ ?_)
 rintro _ _ ⟨i,q,rfl,hF,rfl⟩ hJ2
 refine Ab 7 (Hg 19 ((i:Int)<=(j:Int)) (λhx2 hx2d=>?_) (λhx2 hx2d=>?_))
 refine Ab 7 (Hg 24 ((i:Int)<(p.n:Int)) (λhx3 hx3d=>?_) (λhx3 hx3d=>?_))
 exact Ab 5 (Dx (AaR ((d-i:Nat):Int) (j-i) ω) λv4 hv4=>(Dx (AjW (q j) (p.f i) (gI v4)) λv5 hv5=>(gs (Cl [(4,Co (.osl 0 2 (d+1)) j,.none),(5,Fv (q j),(.read 0)),(8,Co (Qp p) i,.none),(12,.int ((d-i:Nat):Int),.none),(15,.int ((j-i:Nat):Int),.none),(16,_,.none),(17,_,.none),(18,Co (.osl 0 2 (d+1)) j,.none),(19,.lit Go.undef,(.set 0 (.vec 197 2 (d+1) (λxi=>if xi=j then .lit (.agg #[.bool (gB (gT v5 0)),.string (gS (gT v5 1))]) else (λxi=>Fv (q xi)) xi))))] [0,1,5,6,7,12,13] ⟨Ht j (d+1),Br (Bi 197 (.tmp 31) κ isAgg197 2 sizeOf197 0 j κ 197 (d+1) (λxi=>Fv (q xi)) κ ω),Ht i p.n,Bk (.int .i64 (IntKind.wrap .i64 ((d:Int)-(i:Int)))) η,Bk (.int .i64 (IntKind.wrap .i64 ((j:Int)-(i:Int)))) η,Be hv4,Be hv5,Ht j (d+1),Br (Gk 197 (.tmp 45) (.tmp 44) κ 2 sizeOf197 0 j κ 197 (d+1) (λxi=>Fv (q xi)) κ ω κ κ κ (.lit (.agg #[.bool (gB (gT v5 0)),.string (gS (gT v5 1))])) κ),trivial⟩ ·) (Ab 4 (gs (Dd ((i:Int)+1) ((i+1:Nat):Int) ·) (Ab 2 (gs (kM 0 197 2 (d+1) (λxi=>if xi=j then .lit (.agg #[.bool (gB (gT v5 0)),.string (gS (gT v5 1))]) else (λxi=>Fv (q xi)) xi) (λxi=>Fv ((Amk q j (⟨(gB (gT v5 0)),(gS (gT v5 1))⟩)) xi)) (λx9 hx9=>Aml q j (⟨(gB (gT v5 0)),(gS (gT v5 1))⟩) x9) ·) (nN [0,1,5,6,7,12,13] (hJ2 _ _ (by omega:j+1-(i+1)<j+1-i) ⟨i+1,(Amk q j (⟨(gB (gT v5 0)),(gS (gT v5 1))⟩)),rfl,ω,rfl⟩)))))))))
 exact Ab 8 (gs (Dd ((j:Int)+1) ((j+1:Nat):Int) ·) (Ab 2 (nN [0,1,5,12,13] (hJ1 _ _ (by omega:d+1-(j+1)<d+1-j) ⟨j+1,q,rfl,ω,rfl⟩))))
 exact Ab 15 (gs (Dd ((j:Int)+1) ((j+1:Nat):Int) ·) (Ab 2 (nN [0,1,5,12,13] (hJ1 _ _ (by omega:d+1-(j+1)<d+1-j) ⟨j+1,q,rfl,ω,rfl⟩))))
 exact Ab 12 (gs (rD 0 [4] 197 2 (d+1) (λxi=>Fv (g xi)) (Df λ_ _=>rfl) ·) (Ab 1 (Od ⟨⟨d+1,g⟩,rfl,rfl⟩)))
theorem ApP (p:Ws) (d:Nat) (hp:p.n<=25) (hd:d<=24):∃w:Ws,w.n=d+1/\AF Tryz.prog 204 [Qp p,.int (d:Int)] (Qp w):=by
 obtain⟨r,⟨w,h1,rfl⟩,h2⟩:=Aoo p d hp hd
 exact⟨w,h1,h2⟩
theorem AeS (a:Rw):∃r,Ga [.one .i] r/\AF Tryz.prog 198 [Fv a] r:=by
 cases h:Jg a with
 |true=>
  obtain⟨x,hx,ex⟩:=Lw h
  rw[ex]
  exact⟨.int x.sign,rfl,Nn x hx⟩
 |false=>
  refine Av func198 rfl ?_
  exact Ab 10 (gs (Ao (Gi a) ·) (Ab 3 (jD 5 (!Jg a) true (by rw[h];rfl) (Ab 8 (Bc)))))
noncomputable def Amv (a:Rw):Value:=Kp 198 [.one .i] [Fv a]
theorem Il (a:Rw):AF Tryz.prog 198 [Fv a] (.lit (Hi [.one .i] (Amv a))):=Bn (AeS a)
theorem yL (l:Ws) (h0:l.n<=1000000):∃r,Ga [.one .b] r/\AF Tryz.prog 241 [Qp l,.fn 242 []] r:=by
 refine Av func241 rfl ?_
 refine Ab 9 (cX func261 (Ab 14 (Vr [0,1,7,8] (λm s=>∃q,m=l.n-q/\(q<=l.n)/\s=⟨[(0,Qp l),(1,.fn 242 []),(7,.int (l.n:Int)),(8,.int (q:Int))],[],0,19⟩) (l.n-0) ⟨0,rfl,Nat.zero_le _,κ⟩ ?_)))
 rintro _ _ ⟨q,rfl,hF,rfl⟩ hJ1
 refine Ab 6 (Hg 9 ((q:Int)<(l.n:Int)) (λhx2 hx2d=>?_) (λhx2 hx2d=>?_))
 refine Ab 16 (gs (Fd q l.n ·) (Ab 1 (vT func242 (Ab 9 (gs (Ao (Gi (l.f q)) ·) (Ab 5 (Ix (Ab 2 (Ev 16 ?_ ?_)))))))))
 exact Ab 13 (Ix (Ab 5 (Bc)))
 exact Ab 5 (gs (Dd ((q:Int)+1) ((q+1:Nat):Int) ·) (Ab 2 (Fw [0,1,7,8] [] 0 [] trivial (hJ1 _ _ (by omega:l.n-(q+1)<l.n-q) ⟨q+1,rfl,ω,rfl⟩))))
 exact Ab 12 (Ix (Ab 5 (Bc)))
noncomputable def Ag0 (l:Ws):Value:=Kp 241 [.one .b] [Qp l,.fn 242 []]
theorem xH (l:Ws) (h0:l.n<=1000000):AF Tryz.prog 241 [Qp l,.fn 242 []] (.lit (Hi [.one .b] (Ag0 l))):=Bn (yL l h0)
theorem AcH (l:Ws) (h0:l.n<=1000000):∃r,Ga [.one .b] r/\AF Tryz.prog 205 [Qp l] r:=by
 refine Av func205 rfl ?_
 refine Ab 11 (Hg 6 ((1:Int)<=(l.n:Int)) (λhx1 hx1d=>?_) (λhx1 hx1d=>?_))
 refine Ab 5 (Hg 11 ((l.n:Int)<=25) (λhx2 hx2d=>?_) (λhx2 hx2d=>?_))
 exact Ab 1 (Dx (xH l ω) λv3 hv3=>(gs (Ao hv3 ·) (Ab 6 (Bc))))
 exact Ab 8 (Bc)
 exact Ab 13 (Bc)
noncomputable def Akv (l:Ws):Value:=Kp 205 [.one .b] [Qp l]
theorem Acg (l:Ws) (h0:l.n<=1000000):AF Tryz.prog 205 [Qp l] (.lit (Hi [.one .b] (Akv l))):=Bn (AcH l h0)
theorem Aec (l:Ws) (h0:l.n<=1000000):∃r,Ga [.one .b] r/\AF Tryz.prog 196 [Qp l] r:=by
 refine Av func196 rfl ?_
 refine Ab 14 (Vr [0,5,6,7] (λm s=>∃q,m=l.n-q/\(q<=l.n)/\s=⟨[(0,Qp l),(5,Qp l),(6,.int (l.n:Int)),(7,.int (q:Int))],[],0,33⟩) (l.n-0) ⟨0,rfl,Nat.zero_le _,κ⟩ ?_)
 rintro _ _ ⟨q,rfl,hF,rfl⟩ hJ1
 refine Ab 6 (Hg 8 ((q:Int)<(l.n:Int)) (λhx1 hx1d=>?_) (λhx1 hx1d=>?_))
 refine Ab 7 (gs (Fd q l.n ·) (Ab 8 (gs (Ao (Gi (l.f q)) ·) (Ab 3 (Ev 13 ?_ ?_)))))
 exact Ab 12 (Bc)
 exact Ab 5 (gs (Dd ((q:Int)+1) ((q+1:Nat):Int) ·) (Ab 2 (Fw [0,5,6,7] [] 0 [] trivial (hJ1 _ _ (by omega:l.n-(q+1)<l.n-q) ⟨q+1,rfl,ω,rfl⟩))))
 refine Ab 12 (Hg 18 ((l.n:Int)<=25) (λhx2 hx2d=>?_) (λhx2 hx2d=>?_))
 refine Ab 4 (Hg 22 ((l.n:Int)=0) (λhx3 hx3d=>?_) (λhx3 hx3d=>?_))
 exact Ab 14 (Bc)
 exact Ab 3 (gs (Dd ((l.n:Int)-1) ((l.n-1:Nat):Int) ·) (gs (Fd (l.n-1) l.n ·) (Ab 1 (Dx (Il (l.f (l.n-1))) λv4 hv4=>(gs (Ao hv4 ·) (Ab 7 (Bc)))))))
 exact Ab 18 (Bc)
noncomputable def Al4 (l:Ws):Value:=Kp 196 [.one .b] [Qp l]
theorem Acx (l:Ws) (h0:l.n<=1000000):AF Tryz.prog 196 [Qp l] (.lit (Hi [.one .b] (Al4 l))):=Bn (Aec l h0)
theorem AhB (l:Ws) (g:Bool) (h0:l.n<=1000000):∃r,Ga [.agg [.b,.s,.b,.s]] r/\AF Tryz.prog 206 [.slc 1 1 λ_=>Qp l,.bool g] r:=by
 refine Av func206 rfl ?_
 refine Ab 19 (gs (Mg 1 ·) (Ab 14 (gs (Fd 0 1 ·) (Ab 13 (Vr [1,4,5,6,7,14,15,16,21,22,23] (λm s=>∃(j:Nat) (b:Rr),m=l.n-j/\(j<=l.n)/\s=⟨[(1,.bool g),(4,.ptr 0 0),(5,.ptr 1 0),(6,.int 0),(7,Qp l),(14,.slc 1 1 (λi0=>Qp l)),(15,.int 1),(16,.int 0),(21,Qp l),(22,.int (l.n:Int)),(23,.int (j:Int))],[(0,.box 246 [.bool false,.lit (.string ⟨#[]⟩),.bool false,.lit (.string ⟨#[]⟩)]),(1,.box 246 [.bool b.num.neg,.lit (.string b.num.mag),.bool b.den.neg,.lit (.string b.den.mag)])],2,63⟩) (l.n-0) ⟨0,⟨⟨false,⟨#[]⟩⟩,⟨false,⟨#[]⟩⟩⟩,rfl,Nat.zero_le _,κ⟩ ?_)))))
 rintro _ _ ⟨j,b,rfl,hF,rfl⟩ hJ1
 refine Ab 6 (Hg 24 ((j:Int)<(l.n:Int)) (λhx1 hx1d=>?_) (λhx1 hx1d=>?_))
 refine Ab 8 (gs (Fd j l.n ·) (Ab 7 (Dx (AaR ((l.n-1:Nat):Int) j ω) λv2 hv2=>(Dx (Mj (gI v2)) λv3 hv3=>(Dx (aE (l.f j) (⟨(gB (gT v3 0)),(gS (gT v3 1))⟩)) λv4 hv4=>(gs (Cl [(3,.int ((l.n-1:Nat):Int),.none),(5,_,.none),(6,_,.none),(7,_,.none)] [1,4,5,6,7,8,10,14,15,16,21,22,23] ⟨Bk (.int .i64 (IntKind.wrap .i64 ((l.n:Int)-1))) η,Be hv2,Be hv3,Be hv4,trivial⟩ ·) (Ab 5 (Dx (AjX (⟨⟨(gB (gT (gT v4 0) 0)),(gS (gT (gT v4 0) 1))⟩,⟨(gB (gT (gT v4 0) 2)),(gS (gT (gT v4 0) 3))⟩⟩) b) λv5 hv5=>(gs (Ao hv5 ·) (Ab 11 (gs (Dd ((0:Int)+(j:Int)) ((0+j:Nat):Int) ·) (Ab 2 (Hg 49 (((0+j:Nat):Int)=0) (λhx6 hx6d=>?_) (λhx6 hx6d=>?_))))))))))))))
 exact Ab 19 (gs (Dd ((j:Int)+1) ((j+1:Nat):Int) ·) (Ab 2 (Fw [1,4,5,6,7,14,15,16,21,22,23] [(0,0),(1,1)] 2 [] trivial (hJ1 _ _ (by omega:l.n-(j+1)<l.n-j) ⟨j+1,⟨⟨(gB (gT (gT v4 0) 0)),(gS (gT (gT v4 0) 1))⟩,⟨(gB (gT (gT v4 0) 2)),(gS (gT (gT v4 0) 3))⟩⟩,rfl,ω,rfl⟩))))
 refine Ab 3 (gs (Bo (.bool (!decide (decide ((gI (gT v5 0))<0)=g))) (.bool (!decide (decide ((gI (gT v5 0))<0)=g))) ·) (Ab 1 (Ev 54 ?_ ?_)))
 refine Ab 6 (Ev 58 ?_ ?_)
 exact Ab 8 (gs (Dd ((j:Int)+1) ((j+1:Nat):Int) ·) (Ab 2 (Fw [1,4,5,6,7,14,15,16,21,22,23] [(0,0),(1,1)] 2 [] trivial (hJ1 _ _ (by omega:l.n-(j+1)<l.n-j) ⟨j+1,⟨⟨(gB (gT (gT v4 0) 0)),(gS (gT (gT v4 0) 1))⟩,⟨(gB (gT (gT v4 0) 2)),(gS (gT (gT v4 0) 3))⟩⟩,rfl,ω,rfl⟩))))
 exact Ab 5 (gs (Dd ((j:Int)+1) ((j+1:Nat):Int) ·) (Ab 2 (Fw [1,4,5,6,7,14,15,16,21,22,23] [(0,0),(1,1)] 2 [] trivial (hJ1 _ _ (by omega:l.n-(j+1)<l.n-j) ⟨j+1,b,rfl,ω,rfl⟩))))
 exact Ab 11 (gs (Dd ((j:Int)+1) ((j+1:Nat):Int) ·) (Ab 2 (Fw [1,4,5,6,7,14,15,16,21,22,23] [(0,0),(1,1)] 2 [] trivial (hJ1 _ _ (by omega:l.n-(j+1)<l.n-j) ⟨j+1,b,rfl,ω,rfl⟩))))
 exact Ab 31 (Bc)
noncomputable def AnW (l:Ws) (g:Bool):Value:=Kp 206 [.agg [.b,.s,.b,.s]] [.slc 1 1 λ_=>Qp l,.bool g]
theorem rT (l:Ws) (g:Bool) (h0:l.n<=1000000):AF Tryz.prog 206 [.slc 1 1 λ_=>Qp l,.bool g] (.lit (Hi [.agg [.b,.s,.b,.s]] (AnW l g))):=Bn (AhB l g h0)
theorem AcG (l:Ws) (h0:l.n<=1000000):∃r,Ga [.agg [.b,.s,.b,.s],.agg [.b,.s,.b,.s],.one .i] r/\AF Tryz.prog 157 [Qp l] r:=by
 refine Av func157 rfl ?_
 refine Ab 18 (Dx (Acg l ω) λv1 hv1=>(gs (Ao hv1 ·) (Ab 4 (Ev 7 ?_ ?_))))
 exact Ab 2 (gs (Cl [] [2,3,4] trivial ·) (Ab 4 (Bc)))
 refine Ab 4 (Dx (rR l ω) λv2 hv2=>(gs (Ao hv2 ·) (Ab 5 (Ev 13 ?_ ?_))))
 exact Ab 2 (gs (Cl [] [2,3,4] trivial ·) (Ab 4 (Bc)))
 exact Ab 7 (gs (Oh 2 297 1 1 (λ_=>Qp l) ·) (Dx (rT l false ω) λv3 hv3=>(gs (Ci (.lit (.agg #[.bool (gB (gT v3 0)),.string (gS (gT v3 1)),.bool (gB (gT v3 2)),.string (gS (gT v3 3))])) (.drop 2) (Gj 206 #[.tmp 21,(.const (.bool false))] #[300,4] κ (λ_ _=>by kernel_rfl) 2 (.vec 297 1 1 (λ_=>Qp l)) κ (λ_ _ _ _ h=>by cases h;exact(Df λ_ _=>rfl)) [.osl 2 1 1,.bool false] κ [.slc 1 1 (λ_=>Qp l),.bool false] κ (.lit (.agg #[.bool (gB (gT v3 0)),.string (gS (gT v3 1)),.bool (gB (gT v3 2)),.string (gS (gT v3 3))])) hv3) ·) (Ab 1 (gs (Oh 3 297 1 1 (λ_=>Qp l) ·) (Dx (rT l true ω) λv4 hv4=>(gs (Ci (.lit (.agg #[.bool (gB (gT v4 0)),.string (gS (gT v4 1)),.bool (gB (gT v4 2)),.string (gS (gT v4 3))])) (.drop 3) (Gj 206 #[.tmp 24,(.const (.bool true))] #[300,4] κ (λ_ _=>by kernel_rfl) 3 (.vec 297 1 1 (λ_=>Qp l)) κ (λ_ _ _ _ h=>by cases h;exact(Df λ_ _=>rfl)) [.osl 3 1 1,.bool true] κ [.slc 1 1 (λ_=>Qp l),.bool true] κ (.lit (.agg #[.bool (gB (gT v4 0)),.string (gS (gT v4 1)),.bool (gB (gT v4 2)),.string (gS (gT v4 3))])) hv4) ·) (Ab 6 (Bc)))))))))
noncomputable def Aku (l:Ws):Value:=Kp 157 [.agg [.b,.s,.b,.s],.agg [.b,.s,.b,.s],.one .i] [Qp l]
theorem Ace (l:Ws) (h0:l.n<=1000000):AF Tryz.prog 157 [Qp l] (.lit (Hi [.agg [.b,.s,.b,.s],.agg [.b,.s,.b,.s],.one .i] (Aku l))):=Bn (AcG l h0)
theorem Ahl (p:Ws) (d:Nat) (hp:p.n<=25) (hd:d<=1000):∃r,(∃w:Ws×Int,w.1.n<=25/\(r= .tup [Qp w.1,.int w.2]\/r= .lit (.tuple #[.slice none 0 0,.int .i64 w.2])))/\AF Tryz.prog 156 [Qp p,.int (d:Int)] r:=by
 refine Av func156 rfl ?_
 refine Ab 11 (Dx (Acx p ω) λv1 hv1=>(gs (Ao hv1 ·) (Ab 2 (Ev 10 ?_ ?_))))
 exact Ab 20 (Od ⟨(⟨0,λ_=>⟨false,⟨#[]⟩⟩⟩,2),(by decide:(0:Nat)<=25),.inr rfl⟩)
 refine Ab 4 (jD 14 (decide ((d:Int)<0)) false (decide_eq_false ω) (Ab 6 (Hg 6 ((24:Int)<(d:Int)) (λhx3 hx3d=>?_) (λhx3 hx3d=>?_))))
 exact Ab 10 (Od ⟨(⟨0,λ_=>⟨false,⟨#[]⟩⟩⟩,2),(by decide:(0:Nat)<=25),.inr rfl⟩)
 refine Ab 6 (gs (λh9=>Bo (.int .i64 (IntKind.wrap .i64 ((p.n:Int)-1))) (.int .i64 ((p.n:Int)-1)) h9 (congrArg (Value.int .i64) (IntWalk.i64_in _ ω))) (Ab 4 (Hg 18 ((d:Int)<(p.n:Int)-1) (λhx4 hx4d=>?_) (λhx4 hx4d=>?_))))
 exact Ab 10 (Od ⟨(⟨0,λ_=>⟨false,⟨#[]⟩⟩⟩,3),(by decide:(0:Nat)<=25),.inr rfl⟩)
 refine Ab 4 (Dx (rR p ω) λv5 hv5=>(gs (Ao hv5 ·) (Ab 5 (Hg 24 ((65536:Int)<Ai ((gI v5)+30)) (λhx6 hx6d=>?_) (λhx6 hx6d=>?_)))))
 exact Ab 10 (Od ⟨(⟨0,λ_=>⟨false,⟨#[]⟩⟩⟩,7),(by decide:(0:Nat)<=25),.inr rfl⟩)
 refine Ab 8 (Exists.elim (ApP p d ω ω) λv7 hv7=>?_)
 have hv7n:=hv7.1
 exact gs (Ao hv7.2 ·) (Ab 5 (Od ⟨(v7,0),by show v7.n<=25;omega,.inl rfl⟩))
theorem AkO (p:Ws) (d:Nat) (h:p.n<=25/\d<=1000):∃w:Ws×Int,w.1.n<=25/\AF Tryz.prog 156 [Qp p,.int (d:Int)] (.tup [Qp w.1,.int w.2]):=by
 obtain⟨r,⟨w,h1,h3⟩,h2⟩:=Ahl p d h.1 h.2
 rcases h3 with rfl|rfl
 exact⟨w,h1,h2⟩
 refine⟨(⟨0,λ_=>⟨false,⟨#[]⟩⟩⟩,w.2),Nat.zero_le _,xV h2 rfl (λ_ _ _ _ h=>h) λE v h=>?_⟩
 have:=h.lit_inv
 subst this
 exact Aqu (.sl0 _ _ _ _ _) (.lit _ _)
def Kk (n:Nat):Nat->Int
 |0=>1
 |i+1=>(Kk n i*((n:Int)-i)).tdiv (i+1)
theorem eG:∀n,n<25->∀i,i<26->0<=Kk n i/\Kk n i<=3000000:=by decide+kernel
theorem Ajm {n i:Nat} {w:Int} (hn:n<=24) (hi:i<n) (hw:w=Kk n i):Ai (Int.tdiv (Ai (w*((n-i:Nat):Int))) ((i+1:Nat):Int))=Kk n (i+1):=by
 subst hw
 have h1:=eG n ω i ω
 have h2:=eG n ω (i+1) ω
 have e1:((n-i:Nat):Int)=(n:Int)-i:=by omega
 have e2:((i+1:Nat):Int)=(i:Int)+1:=by omega
 have h3:0<=Kk n i*((n:Int)-i):=Int.mul_nonneg h1.1 ω
 have h4:Kk n i*((n:Int)-i)<=3000000*24:=Int.mul_le_mul h1.2 ω ω δ
 have h5:Kk n (i+1)=(Kk n i*((n:Int)-i)).tdiv (i+1):=rfl
 rw[e1,e2,show Ai (Kk n i*((n:Int)-i))=_ from IntWalk.i64_in _ ω,<-h5]
 exact IntWalk.i64_in _ ω
theorem AoT (n k:Nat) (hn:n<=24) (hk:k<=n):∃r,r=AV.int (Kk n k)/\AF Tryz.prog 240 [.int (n:Int),.int (k:Int)] r:=by
 refine Av func240 rfl ?_
 refine Ab 18 (Vr [0,5,7,8] (λm s=>∃(i:Nat) (w:Int),m=k-i/\(w=Kk n i/\i<=k)/\s=⟨[(0,.int (n:Int)),(5,.int w),(7,.int (k:Int)),(8,.int (i:Int))],[],0,21⟩) (k-0) ⟨0,1,rfl,⟨rfl,Nat.zero_le _⟩,κ⟩ ?_)
 rintro _ _ ⟨i,w,rfl,hF,rfl⟩ hJ1
 refine Ab 6 (Hg 9 ((i:Int)<(k:Int)) (λhx1 hx1d=>?_) (λhx1 hx1d=>?_))
 exact Ab 15 (gs (Dd ((n:Int)-(i:Int)) ((n-i:Nat):Int) ·) (Ab 2 (gs (Dd ((i:Int)+1) ((i+1:Nat):Int) ·) (gs (Aqv (Ai (w*((n-i:Nat):Int))) ((i+1:Nat):Int) ω ·) (Ab 5 (gs (Dd ((i:Int)+1) ((i+1:Nat):Int) ·) (Ab 2 (nN [0,5,7,8] (hJ1 _ _ (by omega:k-(i+1)<k-i) ⟨i+1,(Ai (Int.tdiv (Ai (w*((n-i:Nat):Int))) ((i+1:Nat):Int))),rfl,⟨Ajm hn ω hF.1,ω⟩,rfl⟩)))))))))
 exact Ab 13 (Od (r:=AV.int w) (by rw[hF.1,show i=k by omega]))
theorem AfA (s w k:Int) (hs:Cb s) (hw:Cb w) (hk:Cf k) (h1:Cb (w*k)) (h2:Cb (s+w*k)):AF Tryz.prog 239 [WA s,WA w,.int k] (WA (s+w*k)):=by
 refine Au func239 rfl λB D0 hA0=>?_
 exact Ae 8 (Cl [(2,_,.none),(3,_,.none)] [3,4,6] ⟨Be (Dh k hk.1 hk.2),Be (dN w k hw (Eo hk.1 hk.2) h1),trivial⟩ (Ae 5 (Ao (oC s (w*k) hs h1 h2) (Ae 13 (Cm)))))
theorem sB (n k:Nat) (hn:n<=24) (hk:k<=n):AF Tryz.prog 240 [.int (n:Int),.int (k:Int)] (.int (Kk n k)):=by
 obtain⟨r,rfl,h⟩:=AoT n k hn hk
 exact h
theorem Xq {n k:Nat} (hn:n<=24) (hk:k<=n):Cf (Kk n k):=by
 have:=eG n ω k ω
 exact⟨ω,ω⟩
theorem AbU {n k:Nat} (hn:n<=24) (hk:k<=n):0<Kk n k:=by
 have:∀n,n<25->∀k,k<n+1->0<Kk n k:=by decide+kernel
 exact this n ω k ω
def ofS (p:Nat->Int) (d j:Nat):Nat->Int
 |0=>0
 |i+1=>ofS p d j i+p i*Kk (d-i) (j-i)
def ofC (p:Nat->Int) (m d j:Nat):Int:=ofS p d j (min (j+1) m)
theorem qB {p:Nat->Int} {d j:Nat} (hp:∀i,Bd 1000 (p i)) (hd:d<=24) (hj:j<=d):∀i,i<=j+1->Bd (1063+i) (ofS p d j i)
 |0,_=>Bd.zero _
 |i+1,h=>by
  have w:=Xq (n:=d-i) (k:=j-i) ω ω
  exact(qB hp hd hj i ω).add (((hp i).mul (Bd.int w.1 w.2)).mono ω)
def Sv (g:Nat->Int) (j:Nat) (z:Int):Nat->Int:=λk=>if k=j then z else g k
theorem Amm (g:Nat->Int) (j:Nat) (y z:Int) (k:Nat):(if k=j then WA z else WA (Sv g j y k))=WA (Sv g j z k):=by unfold Sv;by_cases h:k=j<;>simp[h]
theorem Amn (g:Nat->Int) (j:Nat) (k:Nat) (h:g j=0):WA (g k)=WA (Sv g j 0 k):=by unfold Sv;by_cases e:k=j<;>simp[e,h]
def OfJ (p:Nat->Int) (m d j:Nat) (g:Nat->Int):Prop:=∀q,g q=if q<j then ofC p m d q else 0
theorem OfJ.step {p:Nat->Int} {m d j:Nat} {g:Nat->Int} {z:Int} (h:OfJ p m d j g) (hz:z=ofC p m d j):OfJ p m d (j+1) (Sv g j z):=λq=>by
 unfold Sv
 by_cases e:q=j
 subst e;rw[if_pos rfl,if_pos (Nat.lt_succ_self _)];exact hz
 rw[if_neg e,h q]
 by_cases h2:q<j
 rw[if_pos h2,if_pos ω]
 rw[if_neg h2,if_neg ω]
theorem OfJ.zero {p:Nat->Int} {m d j:Nat} {g:Nat->Int} (h:OfJ p m d j g):g j=0:=by rw[h j,if_neg ω]
theorem ApO (p:Nat->Int) (m d:Nat):OfJ p m d 0 (λ_=>0):=λq=>(if_neg (Nat.not_lt_zero q)).symm
theorem AoI (g:Nat->Int) (j:Nat) (z:Int):Sv g j z j=z:=if_pos rfl
theorem AfB (g:Nat->Int) (p:Nat->Int) {d j i:Nat} {z:Int} (hp:∀i,Bd 1000 (p i)) (hd:d<=24) (hj:j<=d) (hi:i<=j) (hz:z=ofS p d j i):AF Tryz.prog 239 [WA (Sv g j z j),WA (p i),.int (Kk (d-i) (j-i))] (WA (z+p i*Kk (d-i) (j-i))):=by
 rw[AoI]
 have w:=Xq (n:=d-i) (k:=j-i) ω ω
 have b1:=qB hp hd hj i ω
 have b2:=qB hp hd hj (i+1) ω
 have e:ofS p d j (i+1)=ofS p d j i+p i*Kk (d-i) (j-i):=rfl
 rw[e] at b2
 subst hz
 exact AfA _ _ _ (b1.fit ω) ((hp i).fit ω) w (((hp i).mul (Bd.int w.1 w.2)).fit ω) (b2.fit ω)
theorem Arg (L:Nat) (p:Nat->Int) (d:Nat) (hm:L<=25) (hp:∀i,Bd 1000 (p i)) (hd:d<=24):∃r,(∃g,OfJ p L d (d+1) g/\r= .sl 2 (d+1) λi=>WA (g i))/\AF Tryz.prog 204 [Dm L p,.int (d:Int)] r:=by
 refine Av func204 rfl ?_
 refine Ab 8 (gs (Dd ((d:Int)+1) ((d+1:Nat):Int) ·) (gs (Ci (.osl 0 2 (d+1)) (.new 0 (.vec 197 2 (d+1) (λ_=> .lit (Al 0)))) (Qg 297 (.tmp 9) (.tmp 9) κ underlying297 2 24 (.agg #[.bool false,.string ⟨#[]⟩]) κ κ δ ((d+1:Nat):Int) (d+1) ω κ κ ω ω ω 0 (.lit (Al 0)) κ) ·) (Ab 12 (gs (kM 0 197 2 (d+1) (λ_=> .lit (Al 0)) (λxi=>WA ((λ_=>0) xi)) (λx9 hx9=>rfl) ·) (Vr [0,1,5,12,13] (λm s=>∃(j:Nat) (g:Nat->Int),m=d+1-j/\(OfJ p L d j g/\j<=d+1)/\s=⟨[(0,Dm L p),(1,.int (d:Int)),(5,.osl 0 2 (d+1)),(12,.int ((d+1:Nat):Int)),(13,.int (j:Int))],[(0,.vec 197 2 (d+1) (λxi=>WA (g xi)))],1,48⟩) (d+1-0) ⟨0,(λ_=>0),rfl,⟨ApO p L d,Nat.zero_le _⟩,κ⟩ ?_)))))
 rintro _ _ ⟨j,g,rfl,hF,rfl⟩ hJ1
 have hO:=hF
 refine Ab 6 (Hg 14 ((j:Int)<((d+1:Nat):Int)) (λhx1 hx1d=>?_) (λhx1 hx1d=>?_))
 refine Ab 17 (gs (kM 0 197 2 (d+1) (λxi=>WA (g xi)) (λxi=>WA (Sv g j 0 xi)) (λx9 hx9=>Amn g j x9 hF.1.zero) ·) (Vr [0,1,5,6,7,12,13] (λm s=>∃(i:Nat) (z:Int),m=j+1-i/\(z=ofS p d j i/\i<=j+1/\i<=L)/\s=⟨[(0,Dm L p),(1,.int (d:Int)),(5,.osl 0 2 (d+1)),(6,.int (j:Int)),(7,.int (i:Int)),(12,.int ((d+1:Nat):Int)),(13,.int (j:Int))],[(0,.vec 197 2 (d+1) (λxi=>WA (Sv g j z xi)))],1,48⟩) (j+1-0) ⟨0,0,rfl,⟨rfl,Nat.zero_le _,Nat.zero_le _⟩,κ⟩ ?_))
 rintro _ _ ⟨i,z,rfl,hF,rfl⟩ hJ2
 refine Ab 7 (Hg 19 ((i:Int)<=(j:Int)) (λhx2 hx2d=>?_) (λhx2 hx2d=>?_))
 refine Ab 7 (Hg 24 ((i:Int)<(L:Int)) (λhx3 hx3d=>?_) (λhx3 hx3d=>?_))
 exact Ab 5 (gs (Cl [(4,Co (.osl 0 2 (d+1)) j,.none),(5,.lit (Al (Sv g j z j)),(.read 0)),(8,Co (Dm L p) i,.none),(12,.int ((d-i:Nat):Int),.none),(15,.int ((j-i:Nat):Int),.none),(16,_,.none),(17,_,.none),(18,Co (.osl 0 2 (d+1)) j,.none),(19,.lit Go.undef,(.set 0 (.vec 197 2 (d+1) (λxi=>if xi=j then .lit (Al (z+p i*Kk (d-i) (j-i))) else (λxi=>WA (Sv g j z xi)) xi))))] [0,1,5,6,7,12,13] ⟨Ht j (d+1),Br (Bi 197 (.tmp 31) κ isAgg197 2 sizeOf197 0 j κ 197 (d+1) (λxi=>WA (Sv g j z xi)) κ ω),Ht i L,Bk (.int .i64 (IntKind.wrap .i64 ((d:Int)-(i:Int)))) η,Bk (.int .i64 (IntKind.wrap .i64 ((j:Int)-(i:Int)))) η,Be (sB (d-i) (j-i) ω ω),Be (AfB g p (d:=d) (j:=j) (i:=i) (z:=z) hp hd ω ω hF.1),Ht j (d+1),Br (Gk 197 (.tmp 45) (.tmp 44) κ 2 sizeOf197 0 j κ 197 (d+1) (λxi=>WA (Sv g j z xi)) κ ω κ κ κ (.lit (Al (z+p i*Kk (d-i) (j-i)))) κ),trivial⟩ ·) (Ab 4 (gs (Dd ((i:Int)+1) ((i+1:Nat):Int) ·) (Ab 2 (gs (kM 0 197 2 (d+1) (λxi=>if xi=j then .lit (Al (z+p i*Kk (d-i) (j-i))) else (λxi=>WA (Sv g j z xi)) xi) (λxi=>WA (Sv g j (z+p i*Kk (d-i) (j-i)) xi)) (λx9 hx9=>Amm g j z (z+p i*Kk (d-i) (j-i)) x9) ·) (nN [0,1,5,6,7,12,13] (hJ2 _ _ (by omega:j+1-(i+1)<j+1-i) ⟨i+1,z+p i*Kk (d-i) (j-i),rfl,⟨by rw[hF.1];rfl,ω,ω⟩,rfl⟩)))))))
 exact Ab 8 (gs (Dd ((j:Int)+1) ((j+1:Nat):Int) ·) (Ab 2 (nN [0,1,5,12,13] (hJ1 _ _ (by omega:d+1-(j+1)<d+1-j) ⟨j+1,Sv g j z,rfl,⟨hO.1.step (z:=z) (by rw[hF.1];unfold ofC;congr 1;omega),ω⟩,rfl⟩))))
 exact Ab 15 (gs (Dd ((j:Int)+1) ((j+1:Nat):Int) ·) (Ab 2 (nN [0,1,5,12,13] (hJ1 _ _ (by omega:d+1-(j+1)<d+1-j) ⟨j+1,Sv g j z,rfl,⟨hO.1.step (z:=z) (by rw[hF.1];unfold ofC;congr 1;omega),ω⟩,rfl⟩))))
 exact Ab 12 (gs (rD 0 [4] 197 2 (d+1) (λxi=>WA (g xi)) (Df λ_ _=>rfl) ·) (Ab 1 (Od (r:= .sl 2 (d+1) λi=>WA (g i)) ⟨g,by rw[show d+1=j by omega];exact hF.1,rfl⟩)))
def AkZ (x y:Int):Int×Int:=(x/Tz x y,y/Tz x y)
def Aos (b r:Int×Int):Int:=(r.1*b.2-b.1*r.2).sign
def Gh (c:Nat->Int) (n j:Nat):Int×Int:=AkZ (c j) (Kk (n-1) j)
def Qo (g:Bool) (c:Nat->Int) (n:Nat):Nat->Int×Int
 |0=>(0,0)
 |j+1=>if j=0 then Gh c n j else if decide (Aos (Qo g c n j) (Gh c n j)<0)=g then Qo g c n j else if Aos (Qo g c n j) (Gh c n j)=0 then Qo g c n j else Gh c n j
def Zg (g:Bool) (c:Nat->Int) (n j:Nat):Int:=if j=0 then 0 else Aos (Qo g c n j) (Gh c n j)
def AbV:Rr:=⟨⟨false,⟨#[]⟩⟩,⟨false,⟨#[]⟩⟩⟩
def lP (g:Bool) (c:Nat->Int) (n j:Nat) (b:Rr):Prop:=(j=0/\b=AbV)\/(0<j/\Cu b=Iq (Qo g c n j).1 (Qo g c n j).2)
theorem sR {g:Bool} {c:Nat->Int} {n j:Nat} (h:Qo g c n (j+1)=Gh c n j):lP g c n (j+1) ⟨⟨decide ((Gh c n j).1<0),Cz (Gh c n j).1.natAbs⟩,⟨decide ((Gh c n j).2<0),Cz (Gh c n j).2.natAbs⟩⟩:= .inr ⟨Nat.succ_pos _,by rw[h]⟩
theorem sS {g:Bool} {c:Nat->Int} {n j:Nat} {b:Rr} (hb:lP g c n j b) (hj:¬j=0) (h:Qo g c n (j+1)=Qo g c n j):lP g c n (j+1) b:=by
 rcases hb with⟨h0,_⟩|⟨_,h2⟩
 exact absurd h0 hj
 exact .inr ⟨Nat.succ_pos _,by rw[h];exact h2⟩
theorem AnZ {g:Bool} {c:Nat->Int} {n j:Nat} (h:j=0):Qo g c n (j+1)=Gh c n j:=by unfold Qo;rw[if_pos h]
theorem AqY {g:Bool} {c:Nat->Int} {n j:Nat} (h:¬j=0) (ha:decide (Zg g c n j<0)=g):Qo g c n (j+1)=Qo g c n j:=by
 unfold Zg at ha;rw[if_neg h] at ha
 rw[Qo,if_neg h,if_pos ha]
theorem AqZ {g:Bool} {c:Nat->Int} {n j:Nat} (h:¬j=0) (ha:Zg g c n j=0):Qo g c n (j+1)=Qo g c n j:=by
 unfold Zg at ha;rw[if_neg h] at ha
 rw[Qo,if_neg h,if_pos ha,ite_self]
theorem Ara {g:Bool} {c:Nat->Int} {n j:Nat} (h:¬j=0) (ha:¬decide (Zg g c n j<0)=g) (hb:¬Zg g c n j=0):Qo g c n (j+1)=Gh c n j:=by
 unfold Zg at ha hb;rw[if_neg h] at ha hb
 rw[Qo,if_neg h,if_neg ha,if_neg hb]
theorem Xh {x y:Int} (hx:Cb x) (hy:Cb y) (hp:0<y):Cb (AkZ x y).1/\Cb (AkZ x y).2/\0<(AkZ x y).2:=by
 have hd:Tz x y∣y:=by
  have h1:(Nat.gcd x.natAbs y.natAbs)∣y.natAbs:=Nat.gcd_dvd_right _ _
  exact Int.ofNat_dvd_left.2 h1
 exact⟨Se hx,Se hy,Int.ediv_pos_of_pos_of_dvd hp (Int.natCast_nonneg _) hd⟩
theorem AbO {c:Nat->Int} {n j:Nat} (hc:∀q,Cb (c q)) (hn:n<=25) (hj:j<n):Cb (Gh c n j).1/\Cb (Gh c n j).2/\0<(Gh c n j).2:=by
 have w:=Xq (n:=n-1) (k:=j) ω ω
 exact Xh (hc j) (Eo w.1 w.2) (AbU ω ω)
theorem Aby {g:Bool} {c:Nat->Int} {n:Nat} (hc:∀q,Cb (c q)) (hn:n<=25):∀j,0<j->j<=n->Cb (Qo g c n j).1/\Cb (Qo g c n j).2/\0<(Qo g c n j).2
 |0,h,_=>absurd h (Nat.lt_irrefl 0)
 |j+1,_,h=>by
  have ht:=AbO hc hn (j:=j) ω
  by_cases h0:j=0
  rw[AnZ h0];exact ht
  have ih:=Aby (g:=g) hc hn j ω ω
  rw[Qo,if_neg h0]
  split
  exact ih
  split
  exact ih
  exact ht
theorem Aef (x y:Int) (b:Rr) (hb:Uj b=false):∃r,r=AV.lit (.tuple #[.int .i64 0,.int .i64 2])/\AF Tryz.prog 167 [Iq x y,Cu b] r:=by
 have hq:(Uj ⟨⟨decide (x<0),Cz x.natAbs⟩,⟨decide (y<0),Cz y.natAbs⟩⟩&&Uj b)=false:=by rw[hb,Bool.and_false]
 refine Av func167 rfl ?_
 exact Ab 13 (gs (Ao (Xt ⟨⟨decide (x<0),Cz x.natAbs⟩,⟨decide (y<0),Cz y.natAbs⟩⟩ b) ·) (Ab 3 (jD 12 (!(Uj ⟨⟨decide (x<0),Cz x.natAbs⟩,⟨decide (y<0),Cz y.natAbs⟩⟩&&Uj b)) true (by rw[hq];rfl) (Ab 9 (Od (r:= .lit (.tuple #[.int .i64 0,.int .i64 2])) rfl)))))
theorem Aih:Uj AbV=false:=Ck λ⟨x,y,_,_,hp,e⟩=>by
 have h:=AV.lit.inj e
 unfold AbV at h
 simp only[Value.agg.injEq,Array.mk.injEq,List.cons.injEq,Value.bool.injEq,Value.string.injEq,and_true] at h
 have h3:=yJ (n:=y.natAbs) ω
 rw[<-h.2.2.2] at h3
 exact absurd h3 (by simp)
theorem AjH (g:Bool) (c:Nat->Int) (n j:Nat) (b:Rr) (hc:∀q,Cb (c q)) (hn:n<=25) (hj:j<n) (hb:lP g c n j b):AF Tryz.prog 167 [Iq (Gh c n j).1 (Gh c n j).2,Cu b] (.lit (.tuple #[.int .i64 (Zg g c n j),.int .i64 (if j=0 then 2 else 0)])):=by
 have ht:=AbO hc hn hj
 rcases hb with⟨h0,rfl⟩|⟨h0,h1⟩
 obtain⟨r,rfl,h⟩:=Aef (Gh c n j).1 (Gh c n j).2 AbV Aih
 unfold Zg
 rw[if_pos h0,if_pos h0]
 exact h
 have hl:=Aby (g:=g) hc hn j h0 ω
 unfold Zg
 rw[h1,if_neg ω,if_neg ω]
 exact AfC _ _ _ _ ht.1 ht.2.1 hl.1 hl.2.1 ht.2.2 hl.2.2
theorem AkT (n:Nat) (c:Nat->Int) (g:Bool) (hn:n<=25) (hc:∀q,Cb (c q)):∃r,(∃b,lP g c n n b/\r=Cu b)/\AF Tryz.prog 206 [.slc 1 1 λ_=>Dm n c,.bool g] r:=by
 refine Av func206 rfl ?_
 refine Ab 19 (gs (Mg 1 ·) (Ab 14 (gs (Fd 0 1 ·) (Ab 13 (Vr [1,4,5,6,7,14,15,16,21,22,23] (λm s=>∃(j:Nat) (b:Rr),m=n-j/\(lP g c n j b/\j<=n)/\s=⟨[(1,.bool g),(4,.ptr 0 0),(5,.ptr 1 0),(6,.int 0),(7,Dm n c),(14,.slc 1 1 (λi0=>Dm n c)),(15,.int 1),(16,.int 0),(21,Dm n c),(22,.int (n:Int)),(23,.int (j:Int))],[(0,.box 246 [.bool false,.lit (.string ⟨#[]⟩),.bool false,.lit (.string ⟨#[]⟩)]),(1,.box 246 [.bool b.num.neg,.lit (.string b.num.mag),.bool b.den.neg,.lit (.string b.den.mag)])],2,63⟩) (n-0) ⟨0,⟨⟨false,⟨#[]⟩⟩,⟨false,⟨#[]⟩⟩⟩,rfl,⟨.inl ⟨rfl,rfl⟩,Nat.zero_le _⟩,κ⟩ ?_)))))
 rintro _ _ ⟨j,b,rfl,hF,rfl⟩ hJ1
 refine Ab 6 (Hg 24 ((j:Int)<(n:Int)) (λhx1 hx1d=>?_) (λhx1 hx1d=>?_))
 refine Ab 8 (gs (Fd j n ·) (Ab 7 (gs (Cl [(3,.int ((n-1:Nat):Int),.none),(5,_,.none),(6,_,.none),(7,_,.none)] [1,4,5,6,7,8,10,14,15,16,21,22,23] ⟨Bk (.int .i64 (IntKind.wrap .i64 ((n:Int)-1))) η,Be (sB (n-1) j ω ω),Be (Dh (Kk (n-1) j) (Xq ω ω).1 (Xq ω ω).2),Be (Wv (c j) (Kk (n-1) j) (hc j) (Eo (Xq ω ω).1 (Xq ω ω).2) (AbU ω ω)),trivial⟩ ·) (Ab 5 (gs (Ao (AjH g c n j b hc hn ω hF.1) ·) (Ab 11 (gs (Dd ((0:Int)+(j:Int)) ((0+j:Nat):Int) ·) (Ab 2 (Hg 49 (((0+j:Nat):Int)=0) (λhx2 hx2d=>?_) (λhx2 hx2d=>?_))))))))))
 exact Ab 19 (gs (Dd ((j:Int)+1) ((j+1:Nat):Int) ·) (Ab 2 (Fw [1,4,5,6,7,14,15,16,21,22,23] [(0,0),(1,1)] 2 [] trivial (hJ1 _ _ (by omega:n-(j+1)<n-j) ⟨j+1,⟨⟨decide ((Gh c n j).1<0),Cz ((Gh c n j).1).natAbs⟩,⟨decide ((Gh c n j).2<0),Cz ((Gh c n j).2).natAbs⟩⟩,rfl,⟨sR (AnZ ω),ω⟩,rfl⟩))))
 refine Ab 3 (gs (Bo (.bool (!decide (decide ((Zg g c n j)<0)=g))) (.bool (!decide (decide ((Zg g c n j)<0)=g))) ·) (Ab 1 (AiU 54 (decide ((Zg g c n j)<0)=g) (λhx3 hx3d=>?_) (λhx3 hx3d=>?_))))
 exact Ab 11 (gs (Dd ((j:Int)+1) ((j+1:Nat):Int) ·) (Ab 2 (Fw [1,4,5,6,7,14,15,16,21,22,23] [(0,0),(1,1)] 2 [] trivial (hJ1 _ _ (by omega:n-(j+1)<n-j) ⟨j+1,b,rfl,⟨sS hF.1 ω (AqY ω hx3d),ω⟩,rfl⟩))))
 refine Ab 6 (AiU 58 ((Zg g c n j)=0) (λhx4 hx4d=>?_) (λhx4 hx4d=>?_))
 exact Ab 5 (gs (Dd ((j:Int)+1) ((j+1:Nat):Int) ·) (Ab 2 (Fw [1,4,5,6,7,14,15,16,21,22,23] [(0,0),(1,1)] 2 [] trivial (hJ1 _ _ (by omega:n-(j+1)<n-j) ⟨j+1,b,rfl,⟨sS hF.1 ω (AqZ ω hx4d),ω⟩,rfl⟩))))
 exact Ab 8 (gs (Dd ((j:Int)+1) ((j+1:Nat):Int) ·) (Ab 2 (Fw [1,4,5,6,7,14,15,16,21,22,23] [(0,0),(1,1)] 2 [] trivial (hJ1 _ _ (by omega:n-(j+1)<n-j) ⟨j+1,⟨⟨decide ((Gh c n j).1<0),Cz ((Gh c n j).1).natAbs⟩,⟨decide ((Gh c n j).2<0),Cz ((Gh c n j).2).natAbs⟩⟩,rfl,⟨sR (Ara ω hx3d hx4d),ω⟩,rfl⟩))))
 exact Ab 31 (Od (r:=Cu b) ⟨b,(show j=n by omega)▸hF.1,rfl⟩)
def ofZ (p:Nat->Int) (L d:Nat):Nat->Int:=λq=>if q<d+1 then ofC p L d q else 0
theorem Anb (L:Nat) (p:Nat->Int) (d:Nat) (hm:L<=25) (hp:∀i,Bd 1000 (p i)) (hd:d<=24):AF Tryz.prog 204 [Dm L p,.int (d:Int)] (Dm (d+1) (ofZ p L d)):=by
 obtain⟨r,⟨g,h1,rfl⟩,h⟩:=Arg L p d hm hp hd
 have e:g=ofZ p L d:=funext h1
 rw[e] at h
 exact h
theorem Aon {p:Nat->Int} {L d:Nat} (hp:∀i,Bd 1000 (p i)) (hd:d<=24) (q:Nat):Bd 1100 (ofZ p L d q):=by
 unfold ofZ
 split
 exact(qB hp hd ω _ (Nat.min_le_left _ _)).mono (by have:=Nat.min_le_left (q+1) L;omega)
 exact Bd.zero _
theorem lG (n:Nat) (c:Nat->Int) (g:Bool) (hn:n<=25) (h0:0<n) (hc:∀q,Cb (c q)):AF Tryz.prog 206 [.slc 1 1 λ_=>Dm n c,.bool g] (Iq (Qo g c n n).1 (Qo g c n n).2):=by
 obtain⟨r,⟨b,h1,rfl⟩,h⟩:=AkT n c g hn hc
 rcases h1 with⟨h2,_⟩|⟨_,h2⟩
 omega
 rw[h2] at h;exact h
abbrev AmD (x y:Int):Value:= .agg #[.bool (decide (x<0)),.string (Cz x.natAbs),.bool (decide (y<0)),.string (Cz y.natAbs)]
theorem Agp {e:Nat} {z:Int} (h:Bd e z):bitLen z.natAbs<=e+1:=Fm.2 (Nat.lt_of_le_of_lt h.le (Nat.pow_lt_pow_right δ (Nat.lt_succ_self e)))
theorem xG (n:Nat) (c:Nat->Int) (hn:n<=25) (hc:∀q,Cb (c q)):AF Tryz.prog 241 [Dm n c,.fn 242 []] (.bool false):=by
 refine Au func241 rfl λB D0 hA0=>?_
 refine Ae 9 (Amp 0 func261 (λ_ hD1=>?_))
 refine Ae 14 (Vc [0,1,7,8] n (λq=>True) (λq=>⟨[(0,Dm n c),(1,.fn 242 []),(7,.int (n:Int)),(8,.int (q:Int))],[],0,19⟩) trivial (λq hqn hFq J1 hJ1=>?_))
 refine Ae 6 (Fy 9 ((q:Int)<(n:Int)) (λhx2 hx2d=>?_) (λhx2 hx2d=>?_))
 ·
  refine Ae 16 (Fd q n (Ae 1 (nR 0 func242 (λ_ hD3=>?_))))
  exact Ae 9 (Ao (Eh (c q) (hc q)) (Ae 5 (vrI (Ae 7 (Dd ((q:Int)+1) ((q+1:Nat):Int) (Ae 2 (Tf [0,1,7,8] [] 0 0 hD1 [] trivial (hJ1 ω trivial))))))))
 ·
  exact Ae 12 (vrI (Ae 5 (Cm)))
theorem xI (n:Nat) (c:Nat->Int) (hn:n<=25) (h0:0<n) (hc:∀q,Cb (c q)):AF Tryz.prog 205 [Dm n c] (.bool true):=by
 refine Au func205 rfl λB D0 hA0=>?_
 exact Ae 11 (La 6 (decide ((1:Int)<=(n:Int))) true (decide_eq_true ω) (Ae 5 (La 11 (decide ((n:Int)<=25)) true (decide_eq_true ω) (Ae 1 (Ao (xG n c hn hc) (Ae 6 (Cm)))))))
theorem lD (n:Nat) (c:Nat->Int) (hn:n<=1000000) (hc:∀i,i<n->Cb (c i)):AF Tryz.prog 203 [Dm n c] (.int (Dp c n)):=by
 refine Au func203 rfl λB D0 hA0=>?_
 refine Ae 19 (Vc [3,6,7,8] n (λi=>True) (λi=>⟨[(3,.int (Dp c i)),(6,Dm n c),(7,.int (n:Int)),(8,.int (i:Int))],[],0,18⟩) trivial (λi hin hFi J1 hJ1=>?_))
 refine Ae 6 (Fy 9 ((i:Int)<(n:Int)) (λhx1 hx1d=>?_) (λhx1 hx1d=>?_))
 ·
  exact Ae 7 (Fd i n (Ae 8 (Ao (oD (c i) (hc i ω)) (Ci (.int (max (Dp c i) (bitLen (c i).natAbs:Int))) .none (Ip (.tmp 12) (.tmp 14) #[3,3] κ (Dp c i) (bitLen (c i).natAbs:Int) κ κ) (Ae 5 (Dd ((i:Int)+1) ((i+1:Nat):Int) (Ae 2 (Tf [3,6,7,8] [] 0 0 hA0 [] trivial (hJ1 ω trivial)))))))))
 ·
  exact Ae 13 (Eb (.int (Dp c i)) (congrArg (λz=>AV.int (Dp c z)) (show _=n by omega)))
theorem Afw (L:Nat) (p:Nat->Int) (d:Nat) (hp:∀i,Bd 1000 (p i)) (hl:L=0\/p (L-1)≠0) (hL:L<=d+1) (hd:d<=24):AF Tryz.prog 156 [Dm L p,.int (d:Int)] (.tup [Dm (d+1) (ofZ p L d),.int 0]):=by
 have hs:=Zp (c:=p) (k:=1001) L (λi _=>Agp (hp i))
 refine Au func156 rfl λB D0 hA0=>?_
 exact Ae 11 (Ao (Rn L p ω (λi _=>(hp i).fit δ) hl) (Ae 6 (La 14 (decide ((d:Int)<0)) false (decide_eq_false ω) (Ae 6 (La 6 (decide ((24:Int)<(d:Int))) false (decide_eq_false ω) (Ae 6 (Dd ((L:Int)-1) ((L:Int)-1) (Ae 4 (La 18 (decide ((d:Int)<(L:Int)-1)) false (decide_eq_false ω) (Ae 4 (Ao (lD L p ω (λi _=>(hp i).fit δ)) (Dd ((Dp p L)+30) ((Dp p L)+30) (Ae 4 (La 24 (decide ((65536:Int)<(Dp p L)+30)) false (decide_eq_false ω) (Ae 8 (Ao (Anb L p d ω hp hd) (Ae 5 (Cm))))))))))))))))))
theorem xF (n:Nat) (c:Nat->Int) (hn:n<=25) (h0:0<n) (hc:∀q,Bd 1100 (c q)):AF Tryz.prog 157 [Dm n c] (.lit (.tuple #[AmD (Qo false c n n).1 (Qo false c n n).2,AmD (Qo true c n n).1 (Qo true c n n).2,.int .i64 0])):=by
 have hs:=Zp (c:=c) (k:=1101) n (λi _=>Agp (hc i))
 refine Au func157 rfl λB D0 hA0=>?_
 refine Ae 18 (Ao (xI n c hn h0 (λq=>(hc q).fit δ)) (Ae 8 (Ao (lD n c ω (λi _=>(hc i).fit δ)) (Dd ((Dp c n)+30) ((Dp c n)+30) (Ae 4 (La 13 (decide ((65536:Int)<(Dp c n)+30)) false (decide_eq_false ω) (Ae 7 (Oh 2 297 1 1 (λ_=>Dm n c) ?_))))))))
 refine Ci (Iq ((Qo false c n n).1) ((Qo false c n n).2)) (.drop 2) (Gj 206 #[.tmp 21,(.const (.bool false))] #[300,4] κ (λ_ _=>by kernel_rfl) 2 (.vec 297 1 1 (λ_=>Dm n c)) κ (λ_ _ _ _ h=>by cases h;exact(Df λ_ _=>rfl)) [.osl 2 1 1,.bool false] κ [.slc 1 1 (λ_=>Dm n c),.bool false] κ (Iq ((Qo false c n n).1) ((Qo false c n n).2)) (lG n c false hn h0 (λq=>(hc q).fit δ))) (Ae 1 (Oh 3 297 1 1 (λ_=>Dm n c) ?_))
 exact Ci (Iq ((Qo true c n n).1) ((Qo true c n n).2)) (.drop 3) (Gj 206 #[.tmp 24,(.const (.bool true))] #[300,4] κ (λ_ _=>by kernel_rfl) 3 (.vec 297 1 1 (λ_=>Dm n c)) κ (λ_ _ _ _ h=>by cases h;exact(Df λ_ _=>rfl)) [.osl 3 1 1,.bool true] κ [.slc 1 1 (λ_=>Dm n c),.bool true] κ (Iq ((Qo true c n n).1) ((Qo true c n n).2)) (lG n c true hn h0 (λq=>(hc q).fit δ))) (Ae 6 (Cm))
def aF (l:List Int) (d k:Nat):Prop:=0<l.length/\l.length<=6/\(∀i,Cf (l.getD i 0))/\d<=8/\k<2^d
theorem Aox {d:Nat} (h:d<=8):2^d<=256:=Nat.le_trans (Nat.pow_le_pow_right δ h) δ
theorem Aqm {d:Nat} (h:d<=8):IntKind.wrap .i64 (1*2^min (d:Int).toNat 64)=((2^d:Nat):Int):=by
 match d,h with
 |0,_|1,_|2,_|3,_|4,_|5,_|6,_|7,_|8,_=>decide
theorem Aes (n:Rw) (q:Rr):∃r,Ga [.agg [.b,.s]] r/\AF Tryz.prog 159 [Fv n,Cu q] r:=by
 refine Av func159 rfl ?_
 exact Ab 12 (Dx (eZ n q.den) λv1 hv1=>(gs (Ao hv1 ·) (Ab 15 (Bc))))
noncomputable def AlL (n:Rw) (q:Rr):Value:=Kp 159 [.agg [.b,.s]] [Fv n,Cu q]
theorem lL (n:Rw) (q:Rr):AF Tryz.prog 159 [Fv n,Cu q] (.lit (Hi [.agg [.b,.s]] (AlL n q))):=Bn (Aes n q)
theorem Ad1 (q:Rr):∃r,Ga [.one .i] r/\AF Tryz.prog 161 [Cu q] r:=by
 refine Av func161 rfl ?_
 exact Ab 9 (Dx (Acy q) λv1 hv1=>(gs (Ao hv1 ·) (Ab 11 (Dx (AfK (⟨(gB (gT (gT v1 0) 0)),(gS (gT (gT v1 0) 1))⟩)) λv2 hv2=>(gs (Ao hv2 ·) (Ab 14 (Bc)))))))
noncomputable def AkS (q:Rr):Value:=Kp 161 [.one .i] [Cu q]
theorem lF (q:Rr):AF Tryz.prog 161 [Cu q] (.lit (Hi [.one .i] (AkS q))):=Bn (Ad1 q)
theorem Ah4 (l:List Int) (o:Int) (d:Nat) (k:Nat) (h0:aF l d k):∃r,Ga [.one .i,.one .i] r/\AF Tryz.prog 129 [Ar l,.int o,.int (d:Int),.int (k:Int)] r:=by
 have hn1:=h0.1
 have hn2:=h0.2.1
 have hd8:=h0.2.2.2.1
 have hk:=h0.2.2.2.2
 have hp:=Aox hd8
 have hp0:=Nat.two_pow_pos d
 have ho:ocN l<=l.length:=Oe (oR l) l.length
 have ho2:Gz (oc1 l (k:Int) 1 ((2^d:Nat):Int)) (ocN l)<=ocN l:=Oe _ _
 have hn25:Gz (oc1 l (k:Int) 1 ((2^d:Nat):Int)) (ocN l)<=25/\l.length-1<=1000:=⟨ω,ω⟩
 refine Av func129 rfl ?_
 refine Ab 9 (gs (Ao (lK l h0.1 ω h0.2.2.1) ·) (Ab 8 (gs (Cl [(2,_,.none),(3,_,.none),(5,.int ((2^d:Nat):Int),.none),(6,_,.none),(7,_,.none)] [0,1,2,10] ⟨Be (Dh (k:Int) ω ω),Be (Dh 1 ω ω),Bk (.int .i64 (IntKind.wrap .i64 (1*2^min (d:Int).toNat 64))) (congrArg (Value.int .i64) (Aqm h0.2.2.2.1)),Be (Dh ((2^d:Nat):Int) ω ω),Be (eM (ocN l) (oR l) (k:Int) 1 ((2^d:Nat):Int) ω h0.2.2.1 (Ss _ _) ⟨ω,ω⟩ ⟨δ,δ⟩ ⟨ω,ω⟩ ω),trivial⟩ ·) (Ab 6 (gs (Dd ((l.length:Int)-1) ((l.length-1:Nat):Int) ·) (Exists.elim (AkO (wsZ (Gz (oc1 l (k:Int) 1 ((2^d:Nat):Int)) (ocN l)) (oc1 l (k:Int) 1 ((2^d:Nat):Int))) (l.length-1) (by first|omega|exact hn25)) λv1 hv1=>?_))))))
 have hv1n:=hv1.1
 exact gs (Ao hv1.2 ·) (Ab 10 (Dx (Ace v1.1 ω) λv2 hv2=>(gs (Ao hv2 ·) (Ab 14 (Dx (Mj o) λv3 hv3=>(gs (Ao hv3 ·) (Ab 3 (gs (Dd ((l.length:Int)-1) ((l.length-1:Nat):Int) ·) (Ab 1 (Dx (xW (⟨(gB (gT v3 0)),(gS (gT v3 1))⟩) (Ai ((d:Int)*((l.length-1:Nat):Int)))) λv4 hv4=>(gs (Ao hv4 ·) (Ab 12 (Dx (lL (⟨(gB (gT (gT v4 0) 0)),(gS (gT (gT v4 0) 1))⟩) (⟨⟨(gB (gT (gT v2 0) 0)),(gS (gT (gT v2 0) 1))⟩,⟨(gB (gT (gT v2 0) 2)),(gS (gT (gT v2 0) 3))⟩⟩)) λv5 hv5=>(gs (Ao hv5 ·) (Ab 8 (Dx (aE (⟨(gB (gT (gT v2 0) 0)),(gS (gT (gT v2 0) 1))⟩) (⟨(gB (gT v5 0)),(gS (gT v5 1))⟩)) λv6 hv6=>(gs (Ao hv6 ·) (Ab 11 (Dx (lF (⟨⟨(gB (gT (gT v6 0) 0)),(gS (gT (gT v6 0) 1))⟩,⟨(gB (gT (gT v6 0) 2)),(gS (gT (gT v6 0) 3))⟩⟩)) λv7 hv7=>(gs (Ao hv7 ·) (Ab 7 (Dx (AfN (⟨(gB (gT (gT v2 1) 0)),(gS (gT (gT v2 1) 1))⟩)) λv8 hv8=>(gs (Ao hv8 ·) (Ab 11 (gs (Ao hv3 ·) (Ab 3 (gs (Dd ((l.length:Int)-1) ((l.length-1:Nat):Int) ·) (Ab 1 (gs (Ao hv4 ·) (Ab 10 (Dx (lL (⟨(gB (gT (gT v4 0) 0)),(gS (gT (gT v4 0) 1))⟩) (⟨⟨(gB (gT (gT v2 1) 0)),(gS (gT (gT v2 1) 1))⟩,⟨(gB (gT (gT v2 1) 2)),(gS (gT (gT v2 1) 3))⟩⟩)) λv9 hv9=>(gs (Ao hv9 ·) (Ab 7 (Dx (aE (⟨(gB (gT (gT v8 0) 0)),(gS (gT (gT v8 0) 1))⟩) (⟨(gB (gT v9 0)),(gS (gT v9 1))⟩)) λv10 hv10=>(gs (Ao hv10 ·) (Ab 12 (Dx (lF (⟨⟨(gB (gT (gT v10 0) 0)),(gS (gT (gT v10 0) 1))⟩,⟨(gB (gT (gT v10 0) 2)),(gS (gT (gT v10 0) 3))⟩⟩)) λv11 hv11=>(gs (Ao hv11 ·) (gs (Bo (.int .i64 (Ai (0-(gI v11)))) (.int .i64 (Ai (0-(gI v11)))) ·) (Ab 5 (Bc)))))))))))))))))))))))))))))))))))))))))
noncomputable def AnP (l:List Int) (o:Int) (d:Nat) (k:Nat):Value:=Kp 129 [.one .i,.one .i] [Ar l,.int o,.int (d:Int),.int (k:Int)]
theorem eR (l:List Int) (o:Int) (d:Nat) (k:Nat) (h0:aF l d k):AF Tryz.prog 129 [Ar l,.int o,.int (d:Int),.int (k:Int)] (.lit (Hi [.one .i,.one .i] (AnP l o d k))):=Bn (Ah4 l o d k h0)
theorem rS (s:Sg):AF Tryz.prog 128 [Lx s] (.agg [Ar s.x,Ar s.y,Ar s.z]):=by
 refine Au func128 rfl λB D0 hA0=>?_
 exact Ae 19 (Cm)
theorem Agy (s:Sg) (d:Nat) (k:Nat) (h0:aF s.x d k/\aF s.y d k/\aF s.z d k):∃r,Ga [.agg [.i,.i,.i,.i,.i,.i]] r/\AF Tryz.prog 100 [Lx s,.int (d:Int),.int (k:Int)] r:=by
 refine Av func100 rfl ?_
 exact Ab 16 (gs (Ao (rS s) ·) (Ab 4 (gs (Mg 3 ·) (Ab 14 (gs (Ci (Ar s.x) .none (Ea 199 (.tmp 12) (.tmp 13) κ underlying199 1 sizeOf95 0 false isAgg95 [Ar s.x,Ar s.y,Ar s.z] 0 κ κ ω δ β δ (Ar s.x) κ) ·) (Ab 12 (Dx (eR s.x s.o d k h0.1) λv1 hv1=>(gs (Ao hv1 ·) (Ab 29 (gs (Ci (Ar s.y) .none (Ea 199 (.tmp 12) (.tmp 13) κ underlying199 1 sizeOf95 1 false isAgg95 [Ar s.x,Ar s.y,Ar s.z] 1 κ κ ω δ β δ (Ar s.y) κ) ·) (Ab 12 (Dx (eR s.y s.o d k h0.2.1) λv2 hv2=>(gs (Ao hv2 ·) (Ab 29 (gs (Ci (Ar s.z) .none (Ea 199 (.tmp 12) (.tmp 13) κ underlying199 1 sizeOf95 2 false isAgg95 [Ar s.x,Ar s.y,Ar s.z] 2 κ κ ω δ β δ (Ar s.z) κ) ·) (Ab 12 (Dx (eR s.z s.o d k h0.2.2) λv3 hv3=>(gs (Ao hv3 ·) (Ab 48 (Bc))))))))))))))))))))
noncomputable def Anp (s:Sg) (d:Nat) (k:Nat):Value:=Kp 100 [.agg [.i,.i,.i,.i,.i,.i]] [Lx s,.int (d:Int),.int (k:Int)]
theorem Afs (s:Sg) (d:Nat) (k:Nat) (h0:aF s.x d k/\aF s.y d k/\aF s.z d k):AF Tryz.prog 100 [Lx s,.int (d:Int),.int (k:Int)] (.lit (Hi [.agg [.i,.i,.i,.i,.i,.i]] (Anp s d k))):=Bn (Agy s d k h0)
theorem Aa6 {c:Nat->Int} {n j:Nat} (hc:∀q,Bd 1100 (c q)) (hn:n<=25) (hj:j<n):Bd 1100 (Gh c n j).1/\(Gh c n j).2<=3000000:=by
 have w:=eG (n-1) ω j ω
 exact⟨(hc j).div _,Int.le_trans (Int.ediv_le_self _ w.1) w.2⟩
theorem gX {g:Bool} {c:Nat->Int} {n:Nat} (hc:∀q,Bd 1100 (c q)) (hn:n<=25):∀j,0<j->j<=n->Bd 1100 (Qo g c n j).1/\(Qo g c n j).2<=3000000
 |0,h,_=>absurd h (Nat.lt_irrefl 0)
 |j+1,_,h=>by
  have ht:=Aa6 hc hn (j:=j) ω
  by_cases h0:j=0
  rw[AnZ h0];exact ht
  have ih:=gX (g:=g) hc hn j ω ω
  rw[Qo,if_neg h0]
  split
  exact ih
  split
  exact ih
  exact ht
abbrev spP (l:List Int) (d k:Nat):Nat->Int:=oc1 l (k:Int) 1 ((2^d:Nat):Int)
abbrev spN (l:List Int) (d k:Nat):Nat:=Gz (spP l d k) (ocN l)
abbrev spC (l:List Int) (d k:Nat):Nat->Int:=ofZ (spP l d k) (spN l d k) (l.length-1)
abbrev qY (g:Bool) (l:List Int) (d k:Nat):Int×Int:=Qo g (spC l d k) (l.length-1+1) (l.length-1+1)
abbrev spB (g:Bool) (l:List Int) (o:Int) (d k:Nat):Int:=o*((2^(d*(l.length-1)):Nat):Int)*(qY g l d k).2
def flI (x y:Int):Int:=iR (x/Tz x y/(y/Tz x y))
def aZ (l:List Int) (o:Int) (d k:Nat):Int:=flI (qY false l d k).1 (spB false l o d k)
def Mf (l:List Int) (o:Int) (d k:Nat):Int:=flI (-(qY true l d k).1) (spB true l o d k)
theorem eV (n x y:Int) (hn:Cb n) (hy:Cb y) (hf:Cb (n*y)):AF Tryz.prog 159 [WA n,Iq x y] (WA (n*y)):=by
 refine Au func159 rfl λB D0 hA0=>?_
 exact Ae 12 (Ao (dN n y hn hy hf) (Ae 15 (Cm)))
theorem eQ (x y:Int) (hx:Cb x) (hy:Cb y) (hp:0<y):AF Tryz.prog 161 [Iq x y] (.int (iR (x/y))):=by
 refine Au func161 rfl λB D0 hA0=>?_
 exact Ae 9 (Ao (xR x y hx hy hp) (Ae 11 (Ao (sC (x/y) (Se hx)) (Ae 14 (Cm)))))
theorem AfM (x:Int) (hx:Cb x) (hn:Cb (-x)):AF Tryz.prog 162 [WA x] (.lit (.tuple #[Al (-x),.int .i64 0])):=by
 have:=sE x hx
 rwa [Gd hn,Jw hn] at this
theorem Bd.neg {e:Nat} {x:Int} (h:Bd e x):Bd e (-x):=⟨by rw[Int.natAbs_neg];exact h.le⟩
theorem Akp (k:Nat):Bd k ((2^k:Nat):Int):=⟨by rw[Int.natAbs_natCast];exact Nat.le_refl _⟩
theorem eX (l:List Int) (o:Int) (d k:Nat) (h0:aF l d k) (h1:0<o/\o<=9223372036854775807) (h2: -9223372036854775807<=Mf l o d k/\Mf l o d k<=9223372036854775807):AF Tryz.prog 129 [Ar l,.int o,.int (d:Int),.int (k:Int)] (.lit (.tuple #[.int .i64 (aZ l o d k),.int .i64 (-Mf l o d k)])):=by
 have hn1:=h0.1
 have hn2:=h0.2.1
 have hd8:=h0.2.2.2.1
 have hk:=h0.2.2.2.2
 have hp:=Aox hd8
 have hp0:=Nat.two_pow_pos d
 have ho:ocN l<=l.length:=Oe (oR l) l.length
 have ho2:spN l d k<=ocN l:=Oe _ _
 have hdk:(d:Int)*((l.length-1:Nat):Int)=((d*(l.length-1):Nat):Int):=(Int.natCast_mul _ _).symm
 have hd40:d*(l.length-1)<=8*5:=Nat.mul_le_mul hd8 ω
 have hbd:∀i,Bd 1000 (spP l d k i):=λi=>(Aol h0.2.2.1 ω ⟨ω,ω⟩ ⟨δ,δ⟩ ⟨ω,ω⟩ i).mono δ
 have hcb:∀q,Bd 1100 (spC l d k q):=Aon hbd ω
 have hcf:∀q,Cb (spC l d k q):=λq=>(hcb q).fit δ
 have hL:=Aby (g:=false) hcf (by omega:l.length-1+1<=25) (l.length-1+1) ω ζ
 have hU:=Aby (g:=true) hcf (by omega:l.length-1+1<=25) (l.length-1+1) ω ζ
 have sL:=gX (g:=false) hcb (by omega:l.length-1+1<=25) (l.length-1+1) ω ζ
 have sU:=gX (g:=true) hcb (by omega:l.length-1+1<=25) (l.length-1+1) ω ζ
 have hsh:Bd 200 (o*((2^(d*(l.length-1)):Nat):Int)):=((Bd.int (by omega: -9223372036854775808<=o) ω).mul (Akp _)).mono ω
 have hbl:Cb (spB false l o d k):=(hsh.mul (Bd.int (x:=(qY false l d k).2) (Int.le_trans δ (Int.le_of_lt hL.2.2)) (Int.le_trans sL.2 δ))).fit δ
 have hbu:Cb (spB true l o d k):=(hsh.mul (Bd.int (x:=(qY true l d k).2) (Int.le_trans δ (Int.le_of_lt hU.2.2)) (Int.le_trans sU.2 δ))).fit δ
 have hsp:0<o*((2^(d*(l.length-1)):Nat):Int):=Int.mul_pos h1.1 (by have:=Nat.two_pow_pos (d*(l.length-1));omega)
 have hpl:0<spB false l o d k:=Int.mul_pos hsp hL.2.2
 have hpu:0<spB true l o d k:=Int.mul_pos hsp hU.2.2
 have hN:Cb (-(qY true l d k).1):=sU.1.neg.fit δ
 refine Au func129 rfl λB D0 hA0=>?_
 refine Ae 9 (Ao (lK l h0.1 ω h0.2.2.1) (Ae 8 (Cl [(2,_,.none),(3,_,.none),(5,.int ((2^d:Nat):Int),.none),(6,_,.none),(7,_,.none)] [0,1,2,10] ⟨Be (Dh (k:Int) ω ω),Be (Dh 1 ω ω),Bk (.int .i64 (IntKind.wrap .i64 (1*2^min (d:Int).toNat 64))) (congrArg (Value.int .i64) (Aqm h0.2.2.2.1)),Be (Dh ((2^d:Nat):Int) ω ω),Be (eM (ocN l) (oR l) (k:Int) 1 ((2^d:Nat):Int) ω h0.2.2.1 (Ss _ _) ⟨ω,ω⟩ ⟨δ,δ⟩ ⟨ω,ω⟩ ω),trivial⟩ (Ae 6 (Dd ((l.length:Int)-1) ((l.length-1:Nat):Int) (Ao (Afw (spN l d k) (spP l d k) (l.length-1) hbd (Ss _ _) ω ω) (Ae 10 (Ao (xF (l.length-1+1) (spC l d k) ω ω hcb) (Ae 14 (Ao (Dh o ω ω) (Ae 3 (Dd ((l.length:Int)-1) ((l.length-1:Nat):Int) (Bo (.int .i64 (IntKind.wrap .i64 ((d:Int)*((l.length-1:Nat):Int)))) (.int .i64 ((d*(l.length-1):Nat):Int)) ?_ (congrArg (Value.int .i64) ((IntWalk.i64_in _ ω).trans (by rw[Int.natCast_mul]))))))))))))))))
 exact Ao (fA o (d*(l.length-1)) (Eo ω ω) ω (hsh.fit δ)) (Ae 12 (Ao (eV (o*((2^(d*(l.length-1)):Nat):Int)) ((qY false l d k).1) ((qY false l d k).2) (hsh.fit δ) hL.2.1 hbl) (Ae 8 (Ao (Wv ((qY false l d k).1) (spB false l o d k) hL.1 hbl hpl) (Ae 11 (Ao (eQ (((qY false l d k).1)/Tz ((qY false l d k).1) (spB false l o d k)) ((spB false l o d k)/Tz ((qY false l d k).1) (spB false l o d k)) (Xh hL.1 hbl hpl).1 (Xh hL.1 hbl hpl).2.1 (Xh hL.1 hbl hpl).2.2) (Ae 7 (Ao (AfM (qY true l d k).1 hU.1 hN) (Ae 11 (Ao (Dh o ω ω) (Ae 3 (Dd ((l.length:Int)-1) ((l.length-1:Nat):Int) (Dd ((d:Int)*((l.length-1:Nat):Int)) ((d:Int)*((l.length-1:Nat):Int)) (Ao (fA o (d*(l.length-1)) (Eo ω ω) ω (hsh.fit δ)) (Ae 10 (Ao (eV (o*((2^(d*(l.length-1)):Nat):Int)) ((qY true l d k).1) ((qY true l d k).2) (hsh.fit δ) hU.2.1 hbu) (Ae 7 (Ao (Wv (-(qY true l d k).1) (spB true l o d k) hN hbu hpu) (Ae 12 (Ao (eQ ((-(qY true l d k).1)/Tz (-(qY true l d k).1) (spB true l o d k)) ((spB true l o d k)/Tz (-(qY true l d k).1) (spB true l o d k)) (Xh hN hbu hpu).1 (Xh hN hbu hpu).2.1 (Xh hN hbu hpu).2.2) (Dd (0-(Mf l o d k)) (-Mf l o d k) (Ae 5 (Cm)))))))))))))))))))))))
structure Bx where
 lo:V3
 hi:V3
abbrev bxV (b:Bx):Value:= .agg #[.int .i64 b.lo.x,.int .i64 b.lo.y,.int .i64 b.lo.z,.int .i64 b.hi.x,.int .i64 b.hi.y,.int .i64 b.hi.z]
abbrev bxA (b:Bx):AV:= .lit (bxV b)
def Hd:Prop:=∀(f:Mh) (a b:V3),Zz f->∃r,Ga [.one .b,.one .i] r/\AF Tryz.prog 132 [Jz f,Bg a,Bg b] r
noncomputable def AnN (f:Mh) (a b:V3):Value:=Kp 132 [.one .b,.one .i] [Jz f,Bg a,Bg b]
theorem Xr (f:Mh) (a b:V3) (h:Hd/\Zz f):AF Tryz.prog 132 [Jz f,Bg a,Bg b] (.lit (Hi [.one .b,.one .i] (AnN f a b))):=Bn (h.1 f a b h.2)
theorem Akr (b:Bx) (v:V3):∃r,Ga [.one .b] r/\AF Tryz.prog 130 [bxA b,Bg v] r:=by
 refine Av func130 rfl ?_
 refine Ab 16 (Ev 11 ?_ ?_)
 refine Ab 8 (Ev 19 ?_ ?_)
 refine Ab 8 (Ev 27 ?_ ?_)
 exact Ab 11 (Bc)
 exact Ab 11 (Bc)
 exact Ab 19 (Bc)
 exact Ab 27 (Bc)
noncomputable def Ap5 (b:Bx) (v:V3):Value:=Kp 130 [.one .b] [bxA b,Bg v]
theorem AjG (b:Bx) (v:V3):AF Tryz.prog 130 [bxA b,Bg v] (.lit (Hi [.one .b] (Ap5 b v))):=Bn (Akr b v)
theorem zK (l:Vs) (b:Bx) (h0:l.n<=64):∃r,Ga [.one .b] r/\AF Tryz.prog 84 [Cj l,.lit (.func (.func 130) #[bxV b] #[])] r:=by
 refine Av func84 rfl ?_
 refine Ab 9 (cX func115 (Ab 14 (Vr [0,1,7,8] (λm s=>∃q,m=l.n-q/\(q<=l.n)/\s=⟨[(0,Cj l),(1,.lit (.func (.func 130) #[.agg #[.int .i64 b.lo.x,.int .i64 b.lo.y,.int .i64 b.lo.z,.int .i64 b.hi.x,.int .i64 b.hi.y,.int .i64 b.hi.z]] #[])),(7,.int (l.n:Int)),(8,.int (q:Int))],[],0,19⟩) (l.n-0) ⟨0,rfl,Nat.zero_le _,κ⟩ ?_)))
 rintro _ _ ⟨q,rfl,hF,rfl⟩ hJ1
 refine Ab 6 (Hg 9 ((q:Int)<(l.n:Int)) (λhx2 hx2d=>?_) (λhx2 hx2d=>?_))
 refine Ab 16 (gs (Fd q l.n ·) (Ab 1 (Dx (AjG b (l.f q)) λv3 hv3=>(gs (vcm (b:= .agg #[.int .i64 b.lo.x,.int .i64 b.lo.y,.int .i64 b.lo.z,.int .i64 b.hi.x,.int .i64 b.hi.y,.int .i64 b.hi.z]) hv3 ·) (Ab 2 (Ev 16 ?_ ?_))))))
 exact Ab 13 (Ix (Ab 5 (Bc)))
 exact Ab 5 (gs (Dd ((q:Int)+1) ((q+1:Nat):Int) ·) (Ab 2 (nN [0,1,7,8] (hJ1 _ _ (by omega:l.n-(q+1)<l.n-q) ⟨q+1,rfl,ω,rfl⟩))))
 exact Ab 12 (Ix (Ab 5 (Bc)))
noncomputable def Ahz (l:Vs) (b:Bx):Value:=Kp 84 [.one .b] [Cj l,.lit (.func (.func 130) #[bxV b] #[])]
theorem xL (l:Vs) (b:Bx) (h0:l.n<=64):AF Tryz.prog 84 [Cj l,.lit (.func (.func 130) #[bxV b] #[])] (.lit (Hi [.one .b] (Ahz l b))):=Bn (zK l b h0)
theorem Wq (b:Bx):AF Tryz.prog 131 [bxA b] (.lit (.agg #[.int .i64 b.lo.x,.int .i64 b.lo.y,.int .i64 b.lo.z,.int .i64 b.hi.x,.int .i64 b.lo.y,.int .i64 b.lo.z,.int .i64 b.hi.x,.int .i64 b.hi.y,.int .i64 b.lo.z,.int .i64 b.lo.x,.int .i64 b.hi.y,.int .i64 b.lo.z])):=by
 refine Au func131 rfl λB D0 hA0=>?_
 exact Ae 7 (Cl [] [2,3,4] trivial (Ae 30 (Cm)))
theorem Adv (b:Bx) (f:Mh) (h0:Hd/\Zz f):∃r,Ga [.one .b] r/\AF Tryz.prog 101 [bxA b,Jz f] r:=by
 have hn8:=h0.2.1
 have hn9:=h0.2.2.1
 refine Av func101 rfl ?_
 refine Ab 17 (Ev 17 ?_ ?_)
 exact Ab 17 (Bc)
 refine Ab 9 (Ev 24 ?_ ?_)
 exact Ab 8 (Bc)
 refine Ab 13 (Vr [2,3,26,27,28] (λm s=>∃q,m=f.hn-q/\(q<=f.hn)/\s=⟨[(2,.ptr 0 0),(3,.ptr 1 0),(26,hsA f),(27,.int (f.hn:Int)),(28,.int (q:Int))],[(0,.box 175 [.int b.lo.x,.int b.lo.y,.int b.lo.z,.int b.hi.x,.int b.hi.y,.int b.hi.z]),(1,.box 25 [Cj f.o,hsA f,.int f.low,.int f.high])],2,58⟩) (f.hn-0) ⟨0,rfl,Nat.zero_le _,κ⟩ ?_)
 rintro _ _ ⟨q,rfl,hF,rfl⟩ hJ1
 have hnq:=h0.2.2.2 q
 refine Ab 6 (Hg 29 ((q:Int)<(f.hn:Int)) (λhx2 hx2d=>?_) (λhx2 hx2d=>?_))
 refine Ab 7 (gs (Fd q f.hn ·) (Ab 8 (gs (Bo (.func (.func 130) #[.agg #[.int .i64 b.lo.x,.int .i64 b.lo.y,.int .i64 b.lo.z,.int .i64 b.hi.x,.int .i64 b.hi.y,.int .i64 b.hi.z]] #[]) (.func (.func 130) #[.agg #[.int .i64 b.lo.x,.int .i64 b.lo.y,.int .i64 b.lo.z,.int .i64 b.hi.x,.int .i64 b.hi.y,.int .i64 b.hi.z]] #[]) ·) (Dx (xL (f.h q) b ω) λv3 hv3=>(gs (Ao hv3 ·) (Ab 2 (Ev 35 ?_ ?_)))))))
 exact Ab 12 (Bc)
 exact Ab 5 (gs (Dd ((q:Int)+1) ((q+1:Nat):Int) ·) (Ab 2 (nN [2,3,26,27,28] (hJ1 _ _ (by omega:f.hn-(q+1)<f.hn-q) ⟨q+1,rfl,ω,rfl⟩))))
 refine Ab 9 (gs (Ao (Wq b) ·) (Ab 11 (gs (Mg 4 ·) (Ab 18 (Dx (Xr f b.lo (⟨b.hi.x,b.lo.y,b.lo.z⟩) h0) λv4 hv4=>(gs (Cl [(9,_,.none)] [3,7,9,39] ⟨Be hv4,trivial⟩ ·) (Ab 7 (Ev 56 ?_ ?_))))))))
 exact Ab 12 (Bc)
 refine Ab 27 (Dx (Xr f (⟨b.hi.x,b.lo.y,b.lo.z⟩) (⟨b.hi.x,b.hi.y,b.lo.z⟩) h0) λv5 hv5=>(gs (Cl [(9,_,.none)] [3,7,9,39] ⟨Be hv5,trivial⟩ ·) (Ab 7 (Ev 56 ?_ ?_))))
 exact Ab 12 (Bc)
 refine Ab 27 (Dx (Xr f (⟨b.hi.x,b.hi.y,b.lo.z⟩) (⟨b.lo.x,b.hi.y,b.lo.z⟩) h0) λv6 hv6=>(gs (Cl [(9,_,.none)] [3,7,9,39] ⟨Be hv6,trivial⟩ ·) (Ab 7 (Ev 56 ?_ ?_))))
 exact Ab 12 (Bc)
 refine Ab 27 (Dx (Xr f (⟨b.lo.x,b.hi.y,b.lo.z⟩) b.lo h0) λv7 hv7=>(gs (Cl [(9,_,.none)] [3,7,9,39] ⟨Be hv7,trivial⟩ ·) (Ab 7 (Ev 56 ?_ ?_))))
 exact Ab 12 (Bc)
 exact Ab 27 (Bc)
noncomputable def AkP (b:Bx) (f:Mh):Value:=Kp 101 [.one .b] [bxA b,Jz f]
theorem Acp (b:Bx) (f:Mh) (h0:Hd/\Zz f):AF Tryz.prog 101 [bxA b,Jz f] (.lit (Hi [.one .b] (AkP b f))):=Bn (Adv b f h0)
def AmA:Nat->Nat
 |0=>0
 |_+1=>1
def AmB (g:FuncId) (x y:AV):Nat->AV
 |0=> .top
 |m+1=> .fn g [x,y,.elt (AmA m) λ_=>AmB g x y m]
abbrev uZ (g:FuncId) (x y:AV) (m:Nat):AV:= .elt (AmA m) λ_=>AmB g x y m
theorem AnH {E:As} {g:FuncId} {l:List AV} {v:Value} (h:VR E (.fn g l) v):∃vs,v= .func (.func g) #[] vs/\vs.size=l.length/\∀i,i<l.length->VR E (l.getD i .top) (vs.getD i undef):=by
 cases h with
 |fn _ _ _ vs hn h=>exact⟨vs,rfl,hn,h⟩
theorem Aiu {B:Nat} {D0 E:As} {c:Nat->Option Aw} (hh:HR B D0 E c) {id:Nat} {t:TypeId} {g:FuncId} {x y:AV} (hx:x.flat=true) (hy:y.flat=true) (hc:c id=some (.box t [.fn g [x,y,.ptr id 0]])):∀(m:Nat) (v:Value),VR E (.ptr id 0) v->VR (E.fr id).fz (uZ g x y m) v:=by
 obtain⟨arr,hb,hvs⟩:=hh.box hc
 obtain⟨vs,e1,e2,e3⟩:=AnH (hvs.2 0)
 have h0:=e3 0 (by simp)
 have h1:=e3 1 (by simp)
 have h2:=e3 2 (by simp)
 intro m
 induction m with
 |zero=>
  intro v hv
  cases hv with
  |ptr _ _ _ hA=>exact .elt _ _ _ _ _ (λ_=>undef) (.inr rfl) (λj hj=>absurd hj (Nat.not_lt_zero j)) λj hj=>absurd hj (Nat.not_lt_zero j)
 |succ m ih=>
  intro v hv
  have hsz:0<arr.size:=by rw[hvs.1];simp
  cases hv with
  |ptr _ _ _ hA=>
   refine .elt _ _ _ _ _ (λj=>arr.getD j undef) (.inr rfl) (λj hj=>?_) λj hj=>?_
   obtain rfl:j=0:=by have:j<1:=hj;omega
   exact Jf hb hsz
   obtain rfl:j=0:=by have:j<1:=hj;omega
   show VR _ (.fn g [x,y,uZ g x y m]) (arr.getD 0 undef)
   rw[e1]
   refine .fn _ _ _ _ (by rw[e2];rfl) λi hi=>?_
   match i,hi with
   |0,_=>exact(h0.flat hx).up (E.le_fr id).fz
   |1,_=>exact(h1.flat hy).up (E.le_fr id).fz
   |2,_=>exact ih _ h2
def frzP (id:Nat) (V:AV):AV->AV
 | .ptr id' off=>if id'=id then (if off=0 then V else .top) else .ptr id' off
 |x=>x
def Bu.frzP (c:Bu) (id:Nat) (V:AV):Bu:=⟨c.m,c.k,⟨mapT (YtkpjchfniejdoaaGreatDoor.frzP id V) c.s.t,(Gx c.s.h id).map λp=>(p.1,p.2.mapB (YtkpjchfniejdoaaGreatDoor.frzP id V)),c.s.nx,c.s.n⟩⟩
theorem AoJ {P:Program} {R:Option Nat} {B:Nat} {D0:As} {Q:Exit->St->Prop} {c:Bu} (id:Nat) (g:FuncId) (x y:AV) (m:Nat) (hk:Go P R B D0 Q (c.frzP id (uZ g x y m))) (hc:Aq c.s.h id=some (.box (c.boxT id) [.fn g [x,y,.ptr id 0]]):=by kernel_rfl) (hf:(x.flat&&y.flat)=true:=by kernel_rfl):Go P R B D0 Q c:=by
 obtain⟨hx,hy⟩:=Bool.and_eq_true_iff.1 hf
 refine Fu _ (λE a hs=>Ty id (YtkpjchfniejdoaaGreatDoor.frzP id (uZ g x y m)) _ rfl hc (λE z v hh hv=>?_) E a hs) hk
 have up:=hv.up (E.le_fr id)
 unfold YtkpjchfniejdoaaGreatDoor.frzP
 split
 rename_i id' off
 by_cases e1:id'=id
 subst e1
 rw[if_pos rfl]
 by_cases e2:off=0
 subst e2
 rw[if_pos rfl]
 exact(Aiu hh hx hy hc m v hv).up (As.fz_le _)
 rw[if_neg e2];exact .top _ _
 rw[if_neg e1];exact up
 exact up
abbrev Hk (s:Sg):AV:= .elt 6 λxi=>[AV.int s.f,AV.int s.t,AV.int s.o,Ar s.x,Ar s.y,Ar s.z].getD (0+xi) .top
abbrev Ql (f:Mh):AV:= .elt 4 λxi=>[Cj f.o,hsA f,AV.int f.low,AV.int f.high].getD (0+xi) .top
def SB (s:Sg):Prop:=∀d k,d<=8->k<2^d->aF s.x d k/\aF s.y d k/\aF s.z d k
theorem Ap1 {s:Sg} (h:Yf s) (ho:Nq s):SB s:=λd k hd hk=>
 ⟨⟨by have:=ho.2.1.1;omega,ho.2.1.2.1,h.x,hd,hk⟩,⟨by have:=ho.2.2.1.1;omega,ho.2.2.1.2.1,h.y,hd,hk⟩,⟨by have:=ho.2.2.2.1.1;omega,ho.2.2.2.1.2.1,h.z,hd,hk⟩⟩
theorem Aql {f:FuncId} {args:List AV} (h:∃r,Ga [.one .b] r/\AF Tryz.prog f args r):∃b:Bool,AF Tryz.prog f args (.bool b):=⟨_,Bn h⟩
abbrev Vp (s:Sg) (f:Mh):Nat->AV:=uZ 99 (Hk s) (Ql f)
theorem AcL (s:Sg) (f:Mh) (h0:Hd/\Zz f) (hs:SB s):∀(m d k:Nat),d<=8->8-d<m->k<2^d->∃b:Bool,AF Tryz.prog 99 [.int (d:Int),.int (k:Int),Hk s,Ql f,Vp s f m] (.bool b):=by
 intro m
 induction m with
 |zero=>intro d k _ h;exact absurd h (Nat.not_lt_zero _)
 |succ m ih=>
  intro d k hd hm hk
  have hp:=Aox hd
  have hbx:=hs d k hd hk
  refine Aql (Av func99 rfl ?_)
  refine Ab 6 (Dx (Afs s d k hbx) λv1 hv1=>(Dx (Acp (⟨⟨(gI (gT v1 0)),(gI (gT v1 1)),(gI (gT v1 2))⟩,⟨(gI (gT v1 3)),(gI (gT v1 4)),(gI (gT v1 5))⟩⟩) f h0) λv2 hv2=>?_))
  refine Ec (gB v2) (λhx3=>?_) (λhx3=>?_)
  exact gs (Cl [(3,_,.none),(5,.bool true,.none)] [7] ⟨Be hv1,aO hx3 (Be hv2),trivial⟩ ·) (Ab 2 (Bc))
  refine vsp ((d:Int)<8) (λhx4 hx4d=>?_) (λhx4 hx4d=>?_)
  refine Exists.elim (ih (d+1) (2*k) ω ω (by rw[Nat.pow_succ];omega)) λv5 hv5=>?_
  refine Ec v5 (λhx6=>?_) (λhx6=>?_)
  exact Exists.elim (ih (d+1) (2*k+1) ω ω (by rw[Nat.pow_succ];omega)) λv7 hv7=>(gs (Cl [(3,_,.none),(5,.bool false,.none),(8,.bool true,.none),(12,.int ((d+1:Nat):Int),.none),(14,.int ((2*k:Nat):Int),.none),(15,.bool true,.none),(20,.int ((d+1:Nat):Int),.none),(22,.int ((2*k:Nat):Int),.none),(23,.int ((2*k+1:Nat):Int),.none),(24,_,.none)] [7] ⟨Be hv1,aO hx3 (Be hv2),rG hx4,Bk (.int .i64 (IntKind.wrap .i64 ((d:Int)+1))) η,Bk (.int .i64 (IntKind.wrap .i64 (2*(k:Int)))) η,aO hx6 (Ll hv5),Bk (.int .i64 (IntKind.wrap .i64 ((d:Int)+1))) η,Bk (.int .i64 (IntKind.wrap .i64 (2*(k:Int)))) η,Bk (.int .i64 (IntKind.wrap .i64 (((2*k:Nat):Int)+1))) η,Ll hv7,trivial⟩ ·) (Ab 2 (Bc)))
  exact gs (Cl [(3,_,.none),(5,.bool false,.none),(8,.bool true,.none),(12,.int ((d+1:Nat):Int),.none),(14,.int ((2*k:Nat):Int),.none),(15,.bool false,.none)] [7] ⟨Be hv1,aO hx3 (Be hv2),rG hx4,Bk (.int .i64 (IntKind.wrap .i64 ((d:Int)+1))) η,Bk (.int .i64 (IntKind.wrap .i64 (2*(k:Int)))) η,aO hx6 (Ll hv5),trivial⟩ ·) (Ab 2 (Bc))
  exact gs (Cl [(3,_,.none),(5,.bool false,.none),(8,.bool false,.none)] [7] ⟨Be hv1,aO hx3 (Be hv2),rG hx4,trivial⟩ ·) (Ab 2 (Bc))
theorem Ady (f:Mh) (s:Sg) (h0:(Hd/\Zz f)/\SB s):∃r,Ga [.one .b] r/\AF Tryz.prog 70 [Jz f,Lx s] r:=by
 refine Av func70 rfl ?_
 exact Ab 12 (gs (Vz 0 ·) (gs (Vz 1 ·) (Ab 6 (gs (AoJ 2 99 (Hk s) (Ql f) 10 ·) (Ab 3 (Exists.elim (AcL s f h0.1 h0.2 9 0 0 δ δ δ) λv1 hv1=>(gs (cZ hv1 ·) (Ab 4 (Bc)))))))))
noncomputable def AkQ (f:Mh) (s:Sg):Value:=Kp 70 [.one .b] [Jz f,Lx s]
theorem Acr (f:Mh) (s:Sg) (h0:(Hd/\Zz f)/\SB s):AF Tryz.prog 70 [Jz f,Lx s] (.lit (Hi [.one .b] (AkQ f s))):=Bn (Ady f s h0)
theorem zO (s:Sg) (f:Mh) (h0:(Hd/\Zz f)/\SB s):∃r,Ga [.one .b] r/\AF Tryz.prog 69 [Lx s,Ql f] r:=by
 refine Av func69 rfl ?_
 exact Ab 10 (Dx (Acr f s h0) λv1 hv1=>(gs (Ao hv1 ·) (Ab 5 (Bc))))
noncomputable def Ah0 (s:Sg) (f:Mh):Value:=Kp 69 [.one .b] [Lx s,Ql f]
theorem xN (s:Sg) (f:Mh) (h0:(Hd/\Zz f)/\SB s):AF Tryz.prog 69 [Lx s,Ql f] (.lit (Hi [.one .b] (Ah0 s f))):=Bn (zO s f h0)
theorem Ad0 (f:Mh) (l:List Sg) (h0:Hd/\Zz f/\Pz l):∃r,Ga [.one .i,.one .b,.one .i] r/\AF Tryz.prog 44 [Jz f,Gf l] r:=by
 have hfok:=h0.2.1
 have hl7:=h0.2.2.1
 refine Av func44 rfl ?_
 refine Ab 12 (gs (Ao (Vi f hfok) ·) (Ab 2 (Ev 11 ?_ ?_)))
 exact Ab 16 (Bc)
 refine Ab 1 (gs (Ao (Xz l h0.2.2) ·) (Ab 4 (AiT 15 (bP (Wy l)) (λhx2=>?_) (λhx2=>?_))))
 refine Ab 3 (gs (Vz 0 ·) ?_)
 have hok:=sO hx2
 have hl6:=hok.2.2
 refine Ab 4 (cX func68 (Ab 14 (Vr [0,1,7,8] (λm s=>∃q,m=l.length-q/\(q<=l.length)/\s=⟨[(0,Gf l),(1,.fn 69 [Ql f]),(7,.int ((l).length:Int)),(8,.int (q:Int))],[],1,19⟩) (l.length-0) ⟨0,rfl,Nat.zero_le _,κ⟩ ?_)))
 rintro _ _ ⟨q,rfl,hF,rfl⟩ hJ1
 refine Ab 6 (Hg 9 ((q:Int)<((l).length:Int)) (λhx4 hx4d=>?_) (λhx4 hx4d=>?_))
 refine Ab 16 (gs (Fd q ((l).length) ·) (Ab 1 (Dx (xN ((l).getD q Sg.none) f ⟨⟨h0.1,h0.2.1⟩,Ap1 (h0.2.2.2 _) (hok.1 _ ω).1⟩) λv5 hv5=>(gs (cZ hv5 ·) (Ab 2 (Ev 16 ?_ ?_))))))
 exact Ab 13 (Ix (Ab 6 (gs (Ci (.int (max 0 (q:Int))) .none (Ip (.const (.int .i64 0)) (.tmp 19) #[3,3] κ 0 (q:Int) κ κ) ·) (Ab 8 (Bc)))))
 exact Ab 5 (gs (Dd ((q:Int)+1) ((q+1:Nat):Int) ·) (Ab 2 (nN [0,1,7,8] (hJ1 _ _ (by omega:l.length-(q+1)<l.length-q) ⟨q+1,rfl,ω,rfl⟩))))
 exact Ab 12 (Ix (Ab 6 (gs (Ci (.int (max 0 (-1))) .none (Ip (.const (.int .i64 0)) (.tmp 19) #[3,3] κ 0 (-1) κ κ) ·) (Ab 8 (Bc)))))
 exact Ab 10 (Bc)
noncomputable def AkR (f:Mh) (l:List Sg):Value:=Kp 44 [.one .i,.one .b,.one .i] [Jz f,Gf l]
theorem Acs (f:Mh) (l:List Sg) (h0:Hd/\Zz f/\Pz l):AF Tryz.prog 44 [Jz f,Gf l] (.lit (Hi [.one .i,.one .b,.one .i] (AkR f l))):=Bn (Ad0 f l h0)
theorem zP (f:Mh) (l:List Sg) (h0:Hd/\Zz f/\Pz l):∃r,Ga [.one .b,.one .i] r/\AF Tryz.prog 32 [Jz f,Gf l] r:=by
 refine Av func32 rfl ?_
 refine Ab 11 (Dx (Acs f l h0) λv1 hv1=>(gs (Ao hv1 ·) (Ab 14 (Ev 18 ?_ ?_))))
 exact Ab 9 (Bc)
 exact Ab 9 (Bc)
noncomputable def Lr (f:Mh) (l:List Sg):Value:=Kp 32 [.one .b,.one .i] [Jz f,Gf l]
theorem Wr (f:Mh) (l:List Sg) (h0:Hd/\Zz f/\Pz l):AF Tryz.prog 32 [Jz f,Gf l] (.lit (Hi [.one .b,.one .i] (Lr f l))):=Bn (zP f l h0)
def yD (l:List Int) (o:Int) (d k:Nat):Prop:=aF l d k/\-9223372036854775807<=Mf l o d k/\Mf l o d k<=9223372036854775807
def Ap6 (s:Sg) (d k:Nat):Bx:=⟨⟨aZ s.x s.o d k,aZ s.y s.o d k,aZ s.z s.o d k⟩,⟨-Mf s.x s.o d k,-Mf s.y s.o d k,-Mf s.z s.o d k⟩⟩
theorem Acf (s:Sg) (d k:Nat) (h1:0<s.o/\s.o<=9223372036854775807) (hx:yD s.x s.o d k) (hy:yD s.y s.o d k) (hz:yD s.z s.o d k):AF Tryz.prog 100 [Lx s,.int (d:Int),.int (k:Int)] (bxA (Ap6 s d k)):=by
 refine Au func100 rfl λB D0 hA0=>?_
 exact Ae 16 (Ao (rS s) (Ae 4 (Mg 3 (Ae 14 (Ci (Ar s.x) .none (Ea 199 (.tmp 12) (.tmp 13) κ underlying199 1 sizeOf95 0 false isAgg95 [Ar s.x,Ar s.y,Ar s.z] 0 κ κ ω δ β δ (Ar s.x) κ) (Ae 12 (Ao (eX s.x s.o d k hx.1 h1 hx.2) (Ae 11 (Bo (.int .i64 1) (.int .i64 1) (Ae 17 (Ci (Ar s.y) .none (Ea 199 (.tmp 12) (.tmp 13) κ underlying199 1 sizeOf95 1 false isAgg95 [Ar s.x,Ar s.y,Ar s.z] 1 κ κ ω δ β δ (Ar s.y) κ) (Ae 12 (Ao (eX s.y s.o d k hy.1 h1 hy.2) (Ae 11 (Bo (.int .i64 2) (.int .i64 2) (Ae 17 (Ci (Ar s.z) .none (Ea 199 (.tmp 12) (.tmp 13) κ underlying199 1 sizeOf95 2 false isAgg95 [Ar s.x,Ar s.y,Ar s.z] 2 κ κ ω δ β δ (Ar s.z) κ) (Ae 12 (Ao (eX s.z s.o d k hz.1 h1 hz.2) (Ae 11 (Bo (.int .i64 3) (.int .i64 3) (Ae 36 (Cm)))))))))))))))))))))))
def Ol (v:V3):Prop:=(-2097152<=v.x/\v.x<=2097152)/\(-2097152<=v.y/\v.y<=2097152)/\(-2097152<=v.z/\v.z<=2097152)
instance (v:V3):Decidable (Ol v):=by unfold Ol;exact inferInstance
theorem Ol.val {v:V3} (h:Ol v):Ed 16777216 [v.x,v.y,v.z]=true:=by
 obtain⟨h1,h2,h3⟩:=h
 unfold Ed
 simp
 omega
theorem AhT {u v:Int} (h1: -4194304<=u/\u<=4194304) (h2: -4194304<=v/\v<=4194304): -17592186044416<=u*v/\u*v<=17592186044416:=by
 have h:(u*v).natAbs<=4194304*4194304:=by rw[Int.natAbs_mul];exact Nat.mul_le_mul ω ω
 omega
def sgI (n:Int):Int:=if n<0 then -1 else if 0<n then 1 else 0
def jH (a b c:V3):Int:=sgI ((b.x-a.x)*(c.y-a.y)-(b.y-a.y)*(c.x-a.x))
theorem Acz (n:Int):AF Tryz.prog 141 [.int n] (.int (sgI n)):=by
 refine Au func141 rfl λB D0 hA0=>?_
 refine Ae 14 (Fy 3 (n<0) (λhx1 hx1d=>?_) (λhx1 hx1d=>?_))
 ·
  exact Ae 9 (Eb (.int (-1)) (congrArg AV.int (by unfold sgI;rw[if_pos hx1d])))
 ·
  refine Ae 8 (Fy 6 ((0:Int)<n) (λhx2 hx2d=>?_) (λhx2 hx2d=>?_))
  ·
   exact Ae 9 (Eb (.int 1) (congrArg AV.int (by unfold sgI;rw[if_neg hx1d,if_pos hx2d])))
  ·
   exact Ae 10 (Eb (.int 0) (congrArg AV.int (by unfold sgI;rw[if_neg hx1d,if_neg hx2d])))
theorem xS (v:V3) (h:Ol v):AF Tryz.prog 140 [Bg v] (.bool true):=by
 have:=Vk v
 rwa [h.val] at this
theorem Ac0 (a b c:V3) (ha:Ol a) (hb:Ol b) (hc:Ol c):AF Tryz.prog 116 [Bg a,Bg b,Bg c] (.lit (.tuple #[.int .i64 (jH a b c),.int .i64 0])):=by
 obtain⟨a1,a2,a3⟩:=id ha
 obtain⟨b1,b2,b3⟩:=id hb
 obtain⟨c1,c2,c3⟩:=id hc
 have m1:=AhT (u:=b.x-a.x) (v:=c.y-a.y) ⟨ω,ω⟩ ⟨ω,ω⟩
 have m2:=AhT (u:=b.y-a.y) (v:=c.x-a.x) ⟨ω,ω⟩ ⟨ω,ω⟩
 refine Au func116 rfl λB D0 hA0=>?_
 exact Ae 13 (Ao (xS a ha) (Ae 3 (Ao (xS b hb) (Ae 4 (Ao (xS c hc) (Ae 13 (Dd (b.x-a.x) (b.x-a.x) (Ae 4 (Dd (c.y-a.y) (c.y-a.y) (Dd ((b.x-a.x)*(c.y-a.y)) ((b.x-a.x)*(c.y-a.y)) (Ae 4 (Dd (b.y-a.y) (b.y-a.y) (Ae 4 (Dd (c.x-a.x) (c.x-a.x) (Dd ((b.y-a.y)*(c.x-a.x)) ((b.y-a.y)*(c.x-a.x)) (Dd ((b.x-a.x)*(c.y-a.y)-(b.y-a.y)*(c.x-a.x)) ((b.x-a.x)*(c.y-a.y)-(b.y-a.y)*(c.x-a.x)) (Ao (Acz ((b.x-a.x)*(c.y-a.y)-(b.y-a.y)*(c.x-a.x))) (Ae 5 (Eb (.lit (.tuple #[.int .i64 (sgI ((b.x-a.x)*(c.y-a.y)-(b.y-a.y)*(c.x-a.x))),.int .i64 0])) (by unfold jH;rfl))))))))))))))))))))
theorem eY (a b c:V3) (ha:Ol a) (hb:Ol b) (hc:Ol c):AF Tryz.prog 90 [Bg a,Bg b,Bg c] (.int (jH a b c)):=by
 refine Au func90 rfl λB D0 hA0=>?_
 exact Ae 13 (Ao (Ac0 a b c ha hb hc) (Ae 14 (Cm)))
theorem Xw (a b c:V3) (v:Int) (h:Ol a/\Ol b/\Ol c/\jH a b c=v):AF Tryz.prog 90 [Bg a,Bg b,Bg c] (.int v):=by
 rw[<-h.2.2.2]
 exact eY a b c h.1 h.2.1 h.2.2.1
theorem Qt (v:V3) (h:Ed 1048576 [v.x,v.y,v.z]=true):AF Tryz.prog 17 [Bg v] (.bool true):=by
 have:=Lg v
 rwa [h] at this
def onB (a b p:V3):Bool:=decide (jH a b p=0)&&(decide (min a.x b.x<=p.x)&&(decide (p.x<=max a.x b.x)&&(decide (min a.y b.y<=p.y)&&decide (p.y<=max a.y b.y))))
theorem Anc (a b p:V3) (ha:Ol a) (hb:Ol b) (hp:Ol p):AF Tryz.prog 86 [Bg a,Bg b,Bg p] (.bool (onB a b p)):=by
 refine Au func86 rfl λB D0 hA0=>?_
 refine Ae 13 (Ao (eY a b p ha hb hp) (Ae 2 (Fy 12 ((jH a b p)=0) (λhx1 hx1d=>?_) (λhx1 hx1d=>?_))))
 ·
  refine Ae 6 (Ci (.int (min a.x b.x)) .none (Vo (.tmp 16) (.tmp 18) #[3,3] κ a.x b.x κ κ) (Ae 3 (Fy 22 (min a.x b.x<=p.x) (λhx2 hx2d=>?_) (λhx2 hx2d=>?_))))
  ·
   refine Ae 6 (Ci (.int (max a.x b.x)) .none (Ip (.tmp 26) (.tmp 28) #[3,3] κ a.x b.x κ κ) (Ae 3 (Fy 32 (p.x<=max a.x b.x) (λhx3 hx3d=>?_) (λhx3 hx3d=>?_))))
   ·
    refine Ae 6 (Ci (.int (min a.y b.y)) .none (Vo (.tmp 36) (.tmp 38) #[3,3] κ a.y b.y κ κ) (Ae 3 (Fy 42 (min a.y b.y<=p.y) (λhx4 hx4d=>?_) (λhx4 hx4d=>?_))))
    ·
     exact Ae 6 (Ci (.int (max a.y b.y)) .none (Ip (.tmp 46) (.tmp 48) #[3,3] κ a.y b.y κ κ) (Ae 6 (Eb (.bool (decide (p.y<=max a.y b.y))) (congrArg AV.bool (by simp only[onB,hx1,hx2,hx3,hx4,Bool.true_and])))))
    ·
     exact Ae 13 (Eb (.bool false) (congrArg AV.bool (by simp only[onB,hx1,hx2,hx3,hx4,Bool.and_false,Bool.false_and])))
   ·
    exact Ae 23 (Eb (.bool false) (congrArg AV.bool (by simp only[onB,hx1,hx2,hx3,Bool.and_false,Bool.false_and])))
  ·
   exact Ae 33 (Eb (.bool false) (congrArg AV.bool (by simp only[onB,hx1,hx2,Bool.and_false,Bool.false_and])))
 ·
  exact Ae 43 (Eb (.bool false) (congrArg AV.bool (by simp only[onB,hx1,Bool.false_and])))
theorem Iu (a b p:V3) (v:Bool) (h:Ol a/\Ol b/\Ol p/\onB a b p=v):AF Tryz.prog 86 [Bg a,Bg b,Bg p] (.bool v):=by
 rw[<-h.2.2.2]
 exact Anc a b p h.1 h.2.1 h.2.2.1
def sqF:Nat->V3
 |0=>⟨-10,-10,0⟩
 |1=>⟨10,-10,0⟩
 |2=>⟨10,10,0⟩
 |3=>⟨-10,10,0⟩
 |_=>V3.zero
def Uv:Vs:=⟨4,sqF⟩
def Fg (h:Int):Mh:=⟨Uv,0,λ_=>⟨0,λ_=>V3.zero⟩,0,h⟩
theorem Ack:AF Tryz.prog 84 [Cj Uv,.fn 85 []] (.bool false):=by
 refine Au func84 rfl λB D0 hA0=>?_
 refine Ae 9 (Amp 0 func115 (λ_ hD1=>?_))
 refine Ae 14 (Mg 4 (Ae 22 (Fd 0 4 (Ae 1 (nR 0 func85 (λ_ hD2=>?_))))))
 refine Ae 9 (Ao (Qt ⟨-10,-10,0⟩ δ) (Ae 5 (vrI (Ae 7 (Bo (.int .i64 1) (.int .i64 1) (Ae 25 (Fd 1 4 (Ae 1 (nR 1 func85 (λ_ hD3=>?_))))))))))
 refine Ae 9 (Ao (Qt ⟨10,-10,0⟩ δ) (Ae 5 (vrI (Ae 7 (Bo (.int .i64 2) (.int .i64 2) (Ae 25 (Fd 2 4 (Ae 1 (nR 2 func85 (λ_ hD4=>?_))))))))))
 refine Ae 9 (Ao (Qt ⟨10,10,0⟩ δ) (Ae 5 (vrI (Ae 7 (Bo (.int .i64 3) (.int .i64 3) (Ae 25 (Fd 3 4 (Ae 1 (nR 3 func85 (λ_ hD5=>?_))))))))))
 exact Ae 9 (Ao (Qt ⟨-10,10,0⟩ δ) (Ae 5 (vrI (Ae 7 (Bo (.int .i64 4) (.int .i64 4) (Ae 21 (vrI (Ae 5 (Cm)))))))))
theorem Aez:∃r,r=AV.bool true/\AF Tryz.prog 60 [Cj Uv] r:=by
 refine Av func60 rfl ?_
 exact Ab 23 (gs (Ao Ack ·) (Ab 14 (gs (Mg 4 ·) (Ab 18 (gs (Cl [(2,Co (Cj Uv) 0,.none),(9,Co (Cj Uv) 1,.none)] [0,3,4,5,6,23,24] ⟨Ht 0 4,Ht 1 4,trivial⟩ ·) (Ab 29 (gs (Mg 4 ·) (Ab 14 (gs (Cl [(2,Co (Cj Uv) 1,.none),(9,Co (Cj Uv) 2,.none)] [0,3,4,5,6,7,8,9,23,24] ⟨Ht 1 4,Ht 2 4,trivial⟩ ·) (Ab 26 (gs (Ao (Iu ⟨-10,-10,0⟩ ⟨10,-10,0⟩ ⟨10,10,0⟩ false δ) ·) (Ab 5 (gs (Ao (Iu ⟨10,-10,0⟩ ⟨10,10,0⟩ ⟨-10,-10,0⟩ false δ) ·) (Ab 36 (gs (Cl [(2,Co (Cj Uv) 2,.none),(9,Co (Cj Uv) 3,.none)] [0,3,4,5,6,7,8,9,23,24] ⟨Ht 2 4,Ht 3 4,trivial⟩ ·) (Ab 39 (cX func63 (Ab 10 (gs (Cl [(3,_,.none),(8,_,.none),(14,_,.none),(20,_,.none),(26,_,.none),(30,_,.none)] [8] ⟨Be (Iu ⟨-10,-10,0⟩ ⟨10,-10,0⟩ ⟨10,10,0⟩ false δ),Be (Iu ⟨-10,-10,0⟩ ⟨10,-10,0⟩ ⟨-10,10,0⟩ false δ),Be (Iu ⟨10,10,0⟩ ⟨-10,10,0⟩ ⟨-10,-10,0⟩ false δ),Be (Iu ⟨10,10,0⟩ ⟨-10,10,0⟩ ⟨10,-10,0⟩ false δ),Be (Xw ⟨-10,-10,0⟩ ⟨10,-10,0⟩ ⟨10,10,0⟩ 1 δ),Be (Xw ⟨-10,-10,0⟩ ⟨10,-10,0⟩ ⟨-10,10,0⟩ 1 δ),trivial⟩ ·) (Ab 2 (Ix (Ab 35 (gs (Cl [(2,Co (Cj Uv) 3,.none),(9,Co (Cj Uv) 0,.none)] [0,3,4,5,6,7,8,9,23,24] ⟨Ht 3 4,Ht 0 4,trivial⟩ ·) (Ab 38 (gs (Ao (Iu ⟨-10,-10,0⟩ ⟨10,-10,0⟩ ⟨-10,10,0⟩ false δ) ·) (Ab 5 (gs (Ao (Iu ⟨-10,10,0⟩ ⟨-10,-10,0⟩ ⟨10,-10,0⟩ false δ) ·) (Ab 60 (gs (Cl [(2,Co (Cj Uv) 1,.none),(9,Co (Cj Uv) 2,.none)] [0,3,4,5,6,23,24] ⟨Ht 1 4,Ht 2 4,trivial⟩ ·) (Ab 29 (gs (Mg 4 ·) (Ab 14 (gs (Cl [(2,Co (Cj Uv) 2,.none),(9,Co (Cj Uv) 3,.none)] [0,3,4,5,6,7,8,9,23,24] ⟨Ht 2 4,Ht 3 4,trivial⟩ ·) (Ab 26 (gs (Ao (Iu ⟨10,-10,0⟩ ⟨10,10,0⟩ ⟨-10,10,0⟩ false δ) ·) (Ab 5 (gs (Ao (Iu ⟨10,10,0⟩ ⟨-10,10,0⟩ ⟨10,-10,0⟩ false δ) ·) (Ab 36 (gs (Cl [(2,Co (Cj Uv) 3,.none),(9,Co (Cj Uv) 0,.none)] [0,3,4,5,6,7,8,9,23,24] ⟨Ht 3 4,Ht 0 4,trivial⟩ ·) (Ab 39 (cX func63 (Ab 10 (gs (Cl [(3,_,.none),(8,_,.none),(14,_,.none),(20,_,.none),(26,_,.none),(30,_,.none)] [8] ⟨Be (Iu ⟨10,-10,0⟩ ⟨10,10,0⟩ ⟨-10,10,0⟩ false δ),Be (Iu ⟨10,-10,0⟩ ⟨10,10,0⟩ ⟨-10,-10,0⟩ false δ),Be (Iu ⟨-10,10,0⟩ ⟨-10,-10,0⟩ ⟨10,-10,0⟩ false δ),Be (Iu ⟨-10,10,0⟩ ⟨-10,-10,0⟩ ⟨10,10,0⟩ false δ),Be (Xw ⟨10,-10,0⟩ ⟨10,10,0⟩ ⟨-10,10,0⟩ 1 δ),Be (Xw ⟨10,-10,0⟩ ⟨10,10,0⟩ ⟨-10,-10,0⟩ 1 δ),trivial⟩ ·) (Ab 2 (Ix (Ab 59 (gs (Cl [(2,Co (Cj Uv) 2,.none),(9,Co (Cj Uv) 3,.none)] [0,3,4,5,6,23,24] ⟨Ht 2 4,Ht 3 4,trivial⟩ ·) (Ab 29 (gs (Mg 4 ·) (Ab 14 (gs (Cl [(2,Co (Cj Uv) 3,.none),(9,Co (Cj Uv) 0,.none)] [0,3,4,5,6,7,8,9,23,24] ⟨Ht 3 4,Ht 0 4,trivial⟩ ·) (Ab 26 (gs (Ao (Iu ⟨10,10,0⟩ ⟨-10,10,0⟩ ⟨-10,-10,0⟩ false δ) ·) (Ab 5 (gs (Ao (Iu ⟨-10,10,0⟩ ⟨-10,-10,0⟩ ⟨10,10,0⟩ false δ) ·) (Ab 60 (gs (Cl [(2,Co (Cj Uv) 3,.none),(9,Co (Cj Uv) 0,.none)] [0,3,4,5,6,23,24] ⟨Ht 3 4,Ht 0 4,trivial⟩ ·) (Ab 29 (gs (Mg 4 ·) (Ab 38 (Od (r:= .bool true) rfl)))))))))))))))))))))))))))))))))))))))))))))))))))))))))))))
theorem rW:AF Tryz.prog 60 [Cj Uv] (.bool true):=by
 obtain⟨_,rfl,h⟩:=Aez
 exact h
abbrev onZ (z:Int):V3:=⟨0,0,z⟩
theorem Xx (a b:V3) (z v:Int) (hz:0<=z/\z<=2097152) (h:Ol a/\Ol b/\jH a b (onZ 0)=v):AF Tryz.prog 90 [Bg a,Bg b,Bg (onZ z)] (.int v):=by
 rw[<-h.2.2]
 exact eY a b (onZ z) h.1 h.2.1 ⟨⟨by show (-2097152:Int)<=0;decide,by show (0:Int)<=2097152;decide⟩,⟨by show (-2097152:Int)<=0;decide,by show (0:Int)<=2097152;decide⟩,⟨by show -2097152<=z;omega,hz.2⟩⟩
theorem Acl (n:Int):AF Tryz.prog 92 [.int n] (.int (sgI n)):=by
 refine Au func92 rfl λB D0 hA0=>?_
 refine Ae 14 (Fy 3 (n<0) (λhx1 hx1d=>?_) (λhx1 hx1d=>?_))
 ·
  exact Ae 9 (Eb (.int (-1)) (congrArg AV.int (by unfold sgI;rw[if_pos hx1d])))
 ·
  refine Ae 8 (Fy 6 ((0:Int)<n) (λhx2 hx2d=>?_) (λhx2 hx2d=>?_))
  ·
   exact Ae 9 (Eb (.int 1) (congrArg AV.int (by unfold sgI;rw[if_neg hx1d,if_pos hx2d])))
  ·
   exact Ae 10 (Eb (.int 0) (congrArg AV.int (by unfold sgI;rw[if_neg hx1d,if_neg hx2d])))
theorem Jn (n v:Int) (h:sgI n=v):AF Tryz.prog 92 [.int n] (.int v):=by
 rw[<-h]
 exact Acl n
abbrev bxZ (z w:Int):Bx:=⟨onZ z,onZ w⟩
theorem lJ (z:Int) (hz:0<=z/\z<=1048576):AF Tryz.prog 17 [Bg (onZ z)] (.bool true):=by
 refine Qt (onZ z) ?_
 unfold Ed
 simp
 omega
theorem rX (h:Int) (hh:0<=h/\h<=1048576):∃r,r=AV.bool true/\AF Tryz.prog 39 [Jz (Fg h)] r:=by
 refine Av func39 rfl ?_
 refine Ab 11 (gs (Ao rW ·) (Ab 18 (Hg 36 ((1048576:Int)<h) (λhx1 hx1d=>?_) (λhx1 hx1d=>?_))))
 refine Ab 16 ?_
 exact absurd hh ω
 refine Ab 8 (Hg 42 (h<0) (λhx2 hx2d=>?_) (λhx2 hx2d=>?_))
 refine Ab 8 ?_
 exact absurd hh ω
 exact Ab 7 (gs (Oh 2 22 1 1 (λ_=>Cj Uv) ·) (Ab 14 (gs (Mg 0 ·) (Ab 22 (gs (Mg 0 ·) (Ab 18 (Od (r:= .bool true) rfl)))))))
theorem Rt (h:Int) (hh:0<=h/\h<=1048576):AF Tryz.prog 39 [Jz (Fg h)] (.bool true):=by
 obtain⟨_,rfl,hA⟩:=rX h hh
 exact hA
theorem Aca (z:Int) (hz:0<=z/\z<=1048576):∃r,r=AV.int 1/\AF Tryz.prog 89 [.lit (.agg #[.int .i64 (-10),.int .i64 (-10),.int .i64 0]),.lit (.agg #[.int .i64 10,.int .i64 (-10),.int .i64 0]),.elt 3 (λxi=>[.lit (.int .i64 0),.lit (.int .i64 0),.lit (.int .i64 z)].getD (0+xi) .top)] r:=by
 refine Av func89 rfl ?_
 exact Ab 12 (gs (Ao (Xx ⟨-10,-10,0⟩ ⟨10,-10,0⟩ z 1 ⟨hz.1,ω⟩ δ) ·) (Ab 4 (Od (r:= .int 1) rfl)))
theorem Afn (z:Int) (hz:0<=z/\z<=1048576):AF Tryz.prog 89 [.lit (.agg #[.int .i64 (-10),.int .i64 (-10),.int .i64 0]),.lit (.agg #[.int .i64 10,.int .i64 (-10),.int .i64 0]),.elt 3 (λxi=>[.lit (.int .i64 0),.lit (.int .i64 0),.lit (.int .i64 z)].getD (0+xi) .top)] (.int 1):=by
 obtain⟨_,rfl,hA⟩:=Aca z hz
 exact hA
theorem wX (z:Int) (_:0<=z/\z<=1048576):∃r,r=AV.int (-1)/\AF Tryz.prog 91 [.lit (.agg #[.int .i64 (-10),.int .i64 (-10),.int .i64 0]),.lit (.int .i64 0),.elt 3 (λxi=>[.lit (.int .i64 0),.lit (.int .i64 0),.lit (.int .i64 z)].getD (0+xi) .top)] r:=by
 refine Av func91 rfl ?_
 exact Ab 21 (gs (Ao (Jn (-10) (-1) δ) ·) (Ab 5 (Od (r:= .int (-1)) rfl)))
theorem kV (z:Int) (hz:0<=z/\z<=1048576):AF Tryz.prog 91 [.lit (.agg #[.int .i64 (-10),.int .i64 (-10),.int .i64 0]),.lit (.int .i64 0),.elt 3 (λxi=>[.lit (.int .i64 0),.lit (.int .i64 0),.lit (.int .i64 z)].getD (0+xi) .top)] (.int (-1)):=by
 obtain⟨_,rfl,hA⟩:=wX z hz
 exact hA
theorem wY (z:Int) (_:0<=z/\z<=1048576):∃r,r=AV.int (-1)/\AF Tryz.prog 91 [.lit (.agg #[.int .i64 (-10),.int .i64 (-10),.int .i64 0]),.lit (.int .i64 1),.elt 3 (λxi=>[.lit (.int .i64 0),.lit (.int .i64 0),.lit (.int .i64 z)].getD (0+xi) .top)] r:=by
 refine Av func91 rfl ?_
 exact Ab 23 (gs (Ao (Jn (-10) (-1) δ) ·) (Ab 4 (Od (r:= .int (-1)) rfl)))
theorem kW (z:Int) (hz:0<=z/\z<=1048576):AF Tryz.prog 91 [.lit (.agg #[.int .i64 (-10),.int .i64 (-10),.int .i64 0]),.lit (.int .i64 1),.elt 3 (λxi=>[.lit (.int .i64 0),.lit (.int .i64 0),.lit (.int .i64 z)].getD (0+xi) .top)] (.int (-1)):=by
 obtain⟨_,rfl,hA⟩:=wY z hz
 exact hA
theorem Acb (z:Int) (hz:0<=z/\z<=1048576):∃r,r=AV.int 1/\AF Tryz.prog 89 [.lit (.agg #[.int .i64 10,.int .i64 (-10),.int .i64 0]),.lit (.agg #[.int .i64 10,.int .i64 10,.int .i64 0]),.elt 3 (λxi=>[.lit (.int .i64 0),.lit (.int .i64 0),.lit (.int .i64 z)].getD (0+xi) .top)] r:=by
 refine Av func89 rfl ?_
 exact Ab 12 (gs (Ao (Xx ⟨10,-10,0⟩ ⟨10,10,0⟩ z 1 ⟨hz.1,ω⟩ δ) ·) (Ab 4 (Od (r:= .int 1) rfl)))
theorem Afo (z:Int) (hz:0<=z/\z<=1048576):AF Tryz.prog 89 [.lit (.agg #[.int .i64 10,.int .i64 (-10),.int .i64 0]),.lit (.agg #[.int .i64 10,.int .i64 10,.int .i64 0]),.elt 3 (λxi=>[.lit (.int .i64 0),.lit (.int .i64 0),.lit (.int .i64 z)].getD (0+xi) .top)] (.int 1):=by
 obtain⟨_,rfl,hA⟩:=Acb z hz
 exact hA
theorem wZ (z:Int) (_:0<=z/\z<=1048576):∃r,r=AV.int 1/\AF Tryz.prog 91 [.lit (.agg #[.int .i64 10,.int .i64 (-10),.int .i64 0]),.lit (.int .i64 0),.elt 3 (λxi=>[.lit (.int .i64 0),.lit (.int .i64 0),.lit (.int .i64 z)].getD (0+xi) .top)] r:=by
 refine Av func91 rfl ?_
 exact Ab 21 (gs (Ao (Jn 10 1 δ) ·) (Ab 5 (Od (r:= .int 1) rfl)))
theorem kX (z:Int) (hz:0<=z/\z<=1048576):AF Tryz.prog 91 [.lit (.agg #[.int .i64 10,.int .i64 (-10),.int .i64 0]),.lit (.int .i64 0),.elt 3 (λxi=>[.lit (.int .i64 0),.lit (.int .i64 0),.lit (.int .i64 z)].getD (0+xi) .top)] (.int 1):=by
 obtain⟨_,rfl,hA⟩:=wZ z hz
 exact hA
theorem xA (z:Int) (_:0<=z/\z<=1048576):∃r,r=AV.int (-1)/\AF Tryz.prog 91 [.lit (.agg #[.int .i64 10,.int .i64 (-10),.int .i64 0]),.lit (.int .i64 1),.elt 3 (λxi=>[.lit (.int .i64 0),.lit (.int .i64 0),.lit (.int .i64 z)].getD (0+xi) .top)] r:=by
 refine Av func91 rfl ?_
 exact Ab 23 (gs (Ao (Jn (-10) (-1) δ) ·) (Ab 4 (Od (r:= .int (-1)) rfl)))
theorem kY (z:Int) (hz:0<=z/\z<=1048576):AF Tryz.prog 91 [.lit (.agg #[.int .i64 10,.int .i64 (-10),.int .i64 0]),.lit (.int .i64 1),.elt 3 (λxi=>[.lit (.int .i64 0),.lit (.int .i64 0),.lit (.int .i64 z)].getD (0+xi) .top)] (.int (-1)):=by
 obtain⟨_,rfl,hA⟩:=xA z hz
 exact hA
theorem Acc (z:Int) (hz:0<=z/\z<=1048576):∃r,r=AV.int 1/\AF Tryz.prog 89 [.lit (.agg #[.int .i64 10,.int .i64 10,.int .i64 0]),.lit (.agg #[.int .i64 (-10),.int .i64 10,.int .i64 0]),.elt 3 (λxi=>[.lit (.int .i64 0),.lit (.int .i64 0),.lit (.int .i64 z)].getD (0+xi) .top)] r:=by
 refine Av func89 rfl ?_
 exact Ab 12 (gs (Ao (Xx ⟨10,10,0⟩ ⟨-10,10,0⟩ z 1 ⟨hz.1,ω⟩ δ) ·) (Ab 4 (Od (r:= .int 1) rfl)))
theorem Afp (z:Int) (hz:0<=z/\z<=1048576):AF Tryz.prog 89 [.lit (.agg #[.int .i64 10,.int .i64 10,.int .i64 0]),.lit (.agg #[.int .i64 (-10),.int .i64 10,.int .i64 0]),.elt 3 (λxi=>[.lit (.int .i64 0),.lit (.int .i64 0),.lit (.int .i64 z)].getD (0+xi) .top)] (.int 1):=by
 obtain⟨_,rfl,hA⟩:=Acc z hz
 exact hA
theorem xB (z:Int) (_:0<=z/\z<=1048576):∃r,r=AV.int 1/\AF Tryz.prog 91 [.lit (.agg #[.int .i64 10,.int .i64 10,.int .i64 0]),.lit (.int .i64 0),.elt 3 (λxi=>[.lit (.int .i64 0),.lit (.int .i64 0),.lit (.int .i64 z)].getD (0+xi) .top)] r:=by
 refine Av func91 rfl ?_
 exact Ab 21 (gs (Ao (Jn 10 1 δ) ·) (Ab 5 (Od (r:= .int 1) rfl)))
theorem kZ (z:Int) (hz:0<=z/\z<=1048576):AF Tryz.prog 91 [.lit (.agg #[.int .i64 10,.int .i64 10,.int .i64 0]),.lit (.int .i64 0),.elt 3 (λxi=>[.lit (.int .i64 0),.lit (.int .i64 0),.lit (.int .i64 z)].getD (0+xi) .top)] (.int 1):=by
 obtain⟨_,rfl,hA⟩:=xB z hz
 exact hA
theorem xC (z:Int) (_:0<=z/\z<=1048576):∃r,r=AV.int 1/\AF Tryz.prog 91 [.lit (.agg #[.int .i64 10,.int .i64 10,.int .i64 0]),.lit (.int .i64 1),.elt 3 (λxi=>[.lit (.int .i64 0),.lit (.int .i64 0),.lit (.int .i64 z)].getD (0+xi) .top)] r:=by
 refine Av func91 rfl ?_
 exact Ab 23 (gs (Ao (Jn 10 1 δ) ·) (Ab 4 (Od (r:= .int 1) rfl)))
theorem lA (z:Int) (hz:0<=z/\z<=1048576):AF Tryz.prog 91 [.lit (.agg #[.int .i64 10,.int .i64 10,.int .i64 0]),.lit (.int .i64 1),.elt 3 (λxi=>[.lit (.int .i64 0),.lit (.int .i64 0),.lit (.int .i64 z)].getD (0+xi) .top)] (.int 1):=by
 obtain⟨_,rfl,hA⟩:=xC z hz
 exact hA
theorem Acd (z:Int) (hz:0<=z/\z<=1048576):∃r,r=AV.int 1/\AF Tryz.prog 89 [.lit (.agg #[.int .i64 (-10),.int .i64 10,.int .i64 0]),.lit (.agg #[.int .i64 (-10),.int .i64 (-10),.int .i64 0]),.elt 3 (λxi=>[.lit (.int .i64 0),.lit (.int .i64 0),.lit (.int .i64 z)].getD (0+xi) .top)] r:=by
 refine Av func89 rfl ?_
 exact Ab 12 (gs (Ao (Xx ⟨-10,10,0⟩ ⟨-10,-10,0⟩ z 1 ⟨hz.1,ω⟩ δ) ·) (Ab 4 (Od (r:= .int 1) rfl)))
theorem Afq (z:Int) (hz:0<=z/\z<=1048576):AF Tryz.prog 89 [.lit (.agg #[.int .i64 (-10),.int .i64 10,.int .i64 0]),.lit (.agg #[.int .i64 (-10),.int .i64 (-10),.int .i64 0]),.elt 3 (λxi=>[.lit (.int .i64 0),.lit (.int .i64 0),.lit (.int .i64 z)].getD (0+xi) .top)] (.int 1):=by
 obtain⟨_,rfl,hA⟩:=Acd z hz
 exact hA
theorem xD (z:Int) (_:0<=z/\z<=1048576):∃r,r=AV.int (-1)/\AF Tryz.prog 91 [.lit (.agg #[.int .i64 (-10),.int .i64 10,.int .i64 0]),.lit (.int .i64 0),.elt 3 (λxi=>[.lit (.int .i64 0),.lit (.int .i64 0),.lit (.int .i64 z)].getD (0+xi) .top)] r:=by
 refine Av func91 rfl ?_
 exact Ab 21 (gs (Ao (Jn (-10) (-1) δ) ·) (Ab 5 (Od (r:= .int (-1)) rfl)))
theorem lB (z:Int) (hz:0<=z/\z<=1048576):AF Tryz.prog 91 [.lit (.agg #[.int .i64 (-10),.int .i64 10,.int .i64 0]),.lit (.int .i64 0),.elt 3 (λxi=>[.lit (.int .i64 0),.lit (.int .i64 0),.lit (.int .i64 z)].getD (0+xi) .top)] (.int (-1)):=by
 obtain⟨_,rfl,hA⟩:=xD z hz
 exact hA
theorem xE (z:Int) (_:0<=z/\z<=1048576):∃r,r=AV.int 1/\AF Tryz.prog 91 [.lit (.agg #[.int .i64 (-10),.int .i64 10,.int .i64 0]),.lit (.int .i64 1),.elt 3 (λxi=>[.lit (.int .i64 0),.lit (.int .i64 0),.lit (.int .i64 z)].getD (0+xi) .top)] r:=by
 refine Av func91 rfl ?_
 exact Ab 23 (gs (Ao (Jn 10 1 δ) ·) (Ab 4 (Od (r:= .int 1) rfl)))
theorem lC (z:Int) (hz:0<=z/\z<=1048576):AF Tryz.prog 91 [.lit (.agg #[.int .i64 (-10),.int .i64 10,.int .i64 0]),.lit (.int .i64 1),.elt 3 (λxi=>[.lit (.int .i64 0),.lit (.int .i64 0),.lit (.int .i64 z)].getD (0+xi) .top)] (.int 1):=by
 obtain⟨_,rfl,hA⟩:=xE z hz
 exact hA
theorem Afr (z:Int) (hz:0<=z/\z<=1048576):∃r,r=AV.int 1/\AF Tryz.prog 62 [Cj Uv,Bg (onZ z)] r:=by
 refine Av func62 rfl ?_
 refine Ab 6 (gs (Vz 0 ·) (Ab 5 (cX func88 (Ab 17 (cX func61 (Ab 13 (Ix (Ab 3 (gs (vnm [4,5,6,7,16] ·) (vW func87 λsp3 sp3p sp3a sp3b=>(Ab 8 (gs (Mg 4 ·) (Ab 14 (gs (Fd 0 4 ·) (Ab 7 (gs (Cl [(6,Co (Cj Uv) 1,.none)] [0,1,4,5,6,7,8] ⟨Ht 1 4,trivial⟩ ·) (Ab 14 (jJ sp3p sp3a (Ab 10 (jI sp3b ?_))))))))))))))))))))
 refine Ab 6 (gs (cZ (Afn z hz) ·) (Ab 4 (gs (Cl [(2,_,.none),(5,_,.none),(8,_,.none),(11,_,.none)] [6,7,10,11,12,13,14] ⟨Ll (kV z hz),Ll (kW z hz),Ll (kX z hz),Ll (kY z hz),trivial⟩ ·) (Ab 59 (Pu (Ab 26 (gs (Fd 1 4 ·) (Ab 7 (gs (Cl [(6,Co (Cj Uv) 2,.none)] [0,1,4,5,6,7,8] ⟨Ht 2 4,trivial⟩ ·) (Ab 14 (jJ sp3p sp3a (Ab 10 (jI sp3b ?_)))))))))))))
 refine Ab 6 (gs (cZ (Afo z hz) ·) (Ab 4 (gs (Cl [(2,_,.none),(5,_,.none),(8,_,.none),(11,_,.none)] [6,7,10,11,12,13,14] ⟨Ll (kX z hz),Ll (kY z hz),Ll (kZ z hz),Ll (lA z hz),trivial⟩ ·) (Ab 47 (Pu (Ab 26 (gs (Fd 2 4 ·) (Ab 7 (gs (Cl [(6,Co (Cj Uv) 3,.none)] [0,1,4,5,6,7,8] ⟨Ht 3 4,trivial⟩ ·) (Ab 14 (jJ sp3p sp3a (Ab 10 (jI sp3b ?_)))))))))))))
 refine Ab 6 (gs (cZ (Afp z hz) ·) (Ab 4 (gs (Cl [(2,_,.none),(5,_,.none),(8,_,.none),(11,_,.none)] [6,7,10,11,12,13,14] ⟨Ll (kZ z hz),Ll (lA z hz),Ll (lB z hz),Ll (lC z hz),trivial⟩ ·) (Ab 59 (Pu (Ab 26 (gs (Fd 3 4 ·) (Ab 7 (gs (Cl [(6,Co (Cj Uv) 0,.none)] [0,1,4,5,6,7,8] ⟨Ht 0 4,trivial⟩ ·) (Ab 14 (jJ sp3p sp3a (Ab 10 (jI sp3b ?_)))))))))))))
 exact Ab 6 (gs (cZ (Afq z hz) ·) (Ab 4 (gs (Cl [(2,_,.none),(5,_,.none),(8,_,.none),(11,_,.none)] [6,7,10,11,12,13,14] ⟨Ll (lB z hz),Ll (lC z hz),Ll (kV z hz),Ll (kW z hz),trivial⟩ ·) (Ab 59 (Pu (Ab 23 (bC (Ab 17 (Ix (Ab 4 (Od (r:= .int 1) rfl)))))))))))
theorem AjF (z:Int) (hz:0<=z/\z<=1048576):AF Tryz.prog 62 [Cj Uv,Bg (onZ z)] (.int 1):=by
 obtain⟨_,rfl,hA⟩:=Afr z hz
 exact hA
theorem Afz (z:Int) (hz:0<=z/\z<=1048576):∃r,r=AV.int 1/\AF Tryz.prog 212 [Cj Uv,.elt 3 (λxi=>[.lit (.int .i64 0),.lit (.int .i64 0),.lit (.int .i64 z)].getD (0+xi) .top)] r:=by
 refine Av func212 rfl ?_
 exact Ab 9 (gs (Ao (AjF z hz) ·) (Ab 4 (Od (r:= .int 1) rfl)))
theorem AjN (z:Int) (hz:0<=z/\z<=1048576):AF Tryz.prog 212 [Cj Uv,.elt 3 (λxi=>[.lit (.int .i64 0),.lit (.int .i64 0),.lit (.int .i64 z)].getD (0+xi) .top)] (.int 1):=by
 obtain⟨_,rfl,hA⟩:=Afz z hz
 exact hA
theorem Acu (h z:Int):∃r,r=AV.bool false/\AF Tryz.prog 223 [hsA (Fg h),.fn 224 [.elt 1 (λxi=>[.fn 212 [.elt 3 (λxi=>[.lit (.int .i64 0),.lit (.int .i64 0),.lit (.int .i64 z)].getD (0+xi) .top)]].getD (0+xi) .top)]] r:=by
 refine Av func223 rfl ?_
 exact Ab 9 (cX func254 (Ab 14 (gs (Mg 0 ·) (Ab 18 (Ix (Ab 5 (Od (r:= .bool false) rfl)))))))
theorem Afy (h z:Int):AF Tryz.prog 223 [hsA (Fg h),.fn 224 [.elt 1 (λxi=>[.fn 212 [.elt 3 (λxi=>[.lit (.int .i64 0),.lit (.int .i64 0),.lit (.int .i64 z)].getD (0+xi) .top)]].getD (0+xi) .top)]] (.bool false):=by
 obtain⟨_,rfl,hA⟩:=Acu h z
 exact hA
theorem Af0 (h z:Int) (hz:0<=z/\z<=h/\h<=1048576):∃r,r=AV.bool true/\AF Tryz.prog 177 [Jz (Fg h),.fn 212 [.elt 3 (λxi=>[.lit (.int .i64 0),.lit (.int .i64 0),.lit (.int .i64 z)].getD (0+xi) .top)]] r:=by
 refine Av func177 rfl ?_
 exact Ab 7 (gs (Vz 1 ·) (Ab 5 (gs (cZ (AjN z ⟨hz.1,ω⟩) ·) (Ab 5 (gs (Ao (Afy h z) ·) (Ab 6 (Od (r:= .bool true) rfl)))))))
theorem AjO (h z:Int) (hz:0<=z/\z<=h/\h<=1048576):AF Tryz.prog 177 [Jz (Fg h),.fn 212 [.elt 3 (λxi=>[.lit (.int .i64 0),.lit (.int .i64 0),.lit (.int .i64 z)].getD (0+xi) .top)]] (.bool true):=by
 obtain⟨_,rfl,hA⟩:=Af0 h z hz
 exact hA
theorem nX (h z:Int) (hz:0<=z/\z<=h/\h<=1048576):∃r,r=AV.bool true/\AF Tryz.prog 163 [Jz (Fg h),Bg (onZ z)] r:=by
 refine Av func163 rfl ?_
 refine Ab 7 (gs (Vz 1 ·) (Ab 8 (Hg 10 ((0:Int)<=z) (λhx1 hx1d=>?_) (λhx1 hx1d=>?_))))
 refine Ab 7 (Hg 17 (z<=h) (λhx2 hx2d=>?_) (λhx2 hx2d=>?_))
 exact Ab 2 (gs (Ao (AjO h z hz) ·) (Ab 5 (Od (r:= .bool true) rfl)))
 refine Ab 8 ?_
 exact absurd hz ω
 refine Ab 15 ?_
 exact absurd hz ω
theorem bF (h z:Int) (hz:0<=z/\z<=h/\h<=1048576):AF Tryz.prog 163 [Jz (Fg h),Bg (onZ z)] (.bool true):=by
 obtain⟨_,rfl,hA⟩:=nX h z hz
 exact hA
theorem xM (h z:Int) (hz:0<=z/\z<=h/\h<=1048576):∃r,r=AV.lit (.tuple #[.bool true,.int .i64 0])/\AF Tryz.prog 132 [Jz (Fg h),Bg (onZ z),Bg (onZ z)] r:=by
 refine Av func132 rfl ?_
 exact Ab 13 (gs (Ao (Rt h ⟨ω,hz.2.2⟩) ·) (Ab 3 (gs (Ao (lJ z ⟨hz.1,ω⟩) ·) (Ab 4 (gs (Ao (lJ z ⟨hz.1,ω⟩) ·) (Ab 12 (gs (Ao (bF h z hz) ·) (Ab 4 (gs (Ao (bF h z hz) ·) (Ab 33 (Od (r:= .lit (.tuple #[.bool true,.int .i64 0])) rfl)))))))))))
theorem Jo (h z:Int) (hz:0<=z/\z<=h/\h<=1048576):AF Tryz.prog 132 [Jz (Fg h),Bg (onZ z),Bg (onZ z)] (.lit (.tuple #[.bool true,.int .i64 0])):=by
 obtain⟨_,rfl,hA⟩:=xM h z hz
 exact hA
theorem Aco (h z w:Int) (hz:0<=z/\z<=w/\w<=h/\h<=1048576):∃r,r=AV.bool true/\AF Tryz.prog 101 [bxA (bxZ z w),Jz (Fg h)] r:=by
 refine Av func101 rfl ?_
 refine Ab 17 (Hg 17 (z<0) (λhx1 hx1d=>?_) (λhx1 hx1d=>?_))
 refine Ab 17 ?_
 exact absurd hz ω
 refine Ab 9 (Hg 24 (h<w) (λhx2 hx2d=>?_) (λhx2 hx2d=>?_))
 refine Ab 8 ?_
 exact absurd hz ω
 exact Ab 13 (gs (Mg 0 ·) (Ab 15 (gs (Ao (Wq (bxZ z w)) ·) (Ab 11 (gs (Mg 4 ·) (Ab 18 (gs (Cl [(9,_,.none)] [3,7,9,39] ⟨Be (Jo h z ⟨hz.1,ω⟩),trivial⟩ ·) (Ab 34 (gs (Cl [(9,_,.none)] [3,7,9,39] ⟨Be (Jo h z ⟨hz.1,ω⟩),trivial⟩ ·) (Ab 34 (gs (Cl [(9,_,.none)] [3,7,9,39] ⟨Be (Jo h z ⟨hz.1,ω⟩),trivial⟩ ·) (Ab 34 (gs (Cl [(9,_,.none)] [3,7,9,39] ⟨Be (Jo h z ⟨hz.1,ω⟩),trivial⟩ ·) (Ab 34 (Od (r:= .bool true) rfl)))))))))))))))
theorem Afx (h z w:Int) (hz:0<=z/\z<=w/\w<=h/\h<=1048576):AF Tryz.prog 101 [bxA (bxZ z w),Jz (Fg h)] (.bool true):=by
 obtain⟨_,rfl,hA⟩:=Aco h z w hz
 exact hA
theorem Acn (h z w:Int) (hz:0<=z/\z<=h/\h<w):∃r,r=AV.bool false/\AF Tryz.prog 101 [bxA (bxZ z w),Jz (Fg h)] r:=by
 refine Av func101 rfl ?_
 refine Ab 17 (Hg 17 (z<0) (λhx1 hx1d=>?_) (λhx1 hx1d=>?_))
 exact Ab 17 (Od (r:= .bool false) rfl)
 refine Ab 9 (Hg 24 (h<w) (λhx2 hx2d=>?_) (λhx2 hx2d=>?_))
 exact Ab 8 (Od (r:= .bool false) rfl)
 refine Ab 13 (gs (Mg 0 ·) (Ab 15 (gs (Ao (Wq (bxZ z w)) ·) (Ab 11 (gs (Mg 4 ·) (Ab 18 (gs (Cl [(9,_,.none)] [3,7,9,39] ⟨Be (Jo h z ⟨hz.1,ω⟩),trivial⟩ ·) (Ab 34 (gs (Cl [(9,_,.none)] [3,7,9,39] ⟨Be (Jo h z ⟨hz.1,ω⟩),trivial⟩ ·) (Ab 34 (gs (Cl [(9,_,.none)] [3,7,9,39] ⟨Be (Jo h z ⟨hz.1,ω⟩),trivial⟩ ·) (Ab 34 (gs (Cl [(9,_,.none)] [3,7,9,39] ⟨Be (Jo h z ⟨hz.1,ω⟩),trivial⟩ ·) (Ab 34 ?_))))))))))))))
 exact absurd hz ω
theorem Tg (h z w:Int) (hz:0<=z/\z<=h/\h<w):AF Tryz.prog 101 [bxA (bxZ z w),Jz (Fg h)] (.bool false):=by
 obtain⟨_,rfl,hA⟩:=Acn h z w hz
 exact hA
def CB (s:Sg) (d k:Nat) (z w:Int):Prop:=(0<s.o/\s.o<=9223372036854775807)/\yD s.x s.o d k/\yD s.y s.o d k/\yD s.z s.o d k/\Ap6 s d k=bxZ z w
theorem Vh (s:Sg) (d k:Nat) (z w:Int) (h:CB s d k z w):AF Tryz.prog 100 [Lx s,.int (d:Int),.int (k:Int)] (bxA (bxZ z w)):=by
 rw[<-h.2.2.2.2]
 exact Acf s d k h.1 h.2.1 h.2.2.1 h.2.2.2.1
theorem ApA (s:Sg) (d k:Nat) (z w h:Int) (m:Nat) (hb:CB s d k z w) (hz:0<=z/\z<=w/\w<=h/\h<=1048576) (_:d<=8):∃r,r=AV.bool true/\AF Tryz.prog 99 [.int (d:Int),.int (k:Int),Hk s,Ql (Fg h),Vp s (Fg h) (m+1)] r:=by
 refine Av func99 rfl ?_
 exact Ab 6 (gs (Cl [(3,_,.none),(5,_,.none)] [7] ⟨Be (Vh s d k z w hb),Be (Afx h z w hz),trivial⟩ ·) (Ab 2 (Od (r:= .bool true) rfl)))
theorem AcK (s:Sg) (d k:Nat) (z w h:Int) (m:Nat) (hb:CB s d k z w) (hz:0<=z/\z<=w/\w<=h/\h<=1048576) (hd:d<=8):AF Tryz.prog 99 [.int (d:Int),.int (k:Int),Hk s,Ql (Fg h),Vp s (Fg h) (m+1)] (.bool true):=by
 obtain⟨_,rfl,hA⟩:=ApA s d k z w h m hb hz hd
 exact hA
theorem Ap8 (s:Sg) (k:Nat) (z w h:Int) (m:Nat) (hb:CB s 8 k z w) (hz:0<=z/\z<=h/\h<w):∃r,r=AV.bool false/\AF Tryz.prog 99 [.int ((8:Nat):Int),.int (k:Int),Hk s,Ql (Fg h),Vp s (Fg h) (m+1)] r:=by
 refine Av func99 rfl ?_
 exact Ab 6 (gs (Cl [(3,_,.none),(5,_,.none)] [7] ⟨Be (Vh s 8 k z w hb),Be (Tg h z w hz),trivial⟩ ·) (Ab 2 (Od (r:= .bool false) rfl)))
theorem AqO (s:Sg) (k:Nat) (z w h:Int) (m:Nat) (hb:CB s 8 k z w) (hz:0<=z/\z<=h/\h<w):AF Tryz.prog 99 [.int ((8:Nat):Int),.int (k:Int),Hk s,Ql (Fg h),Vp s (Fg h) (m+1)] (.bool false):=by
 obtain⟨_,rfl,hA⟩:=Ap8 s k z w h m hb hz
 exact hA
theorem Ap9 (s:Sg) (d k:Nat) (z w h:Int) (m:Nat) (hb:CB s d k z w) (hz:0<=z/\z<=h/\h<w) (hd:d<8/\k<256) (hl:AF Tryz.prog 99 [.int ((d+1):Int),.int ((2*k):Int),Hk s,Ql (Fg h),Vp s (Fg h) m] (.bool false)):∃r,r=AV.bool false/\AF Tryz.prog 99 [.int (d:Int),.int (k:Int),Hk s,Ql (Fg h),Vp s (Fg h) (m+1)] r:=by
 refine Av func99 rfl ?_
 refine Ab 6 (vsp ((d:Int)<8) (λhx1 hx1d=>?_) (λhx1 hx1d=>?_))
 exact gs (Cl [(3,_,.none),(5,_,.none),(8,.bool true,.none),(12,.int ((d+1:Nat):Int),.none),(14,.int ((2*k:Nat):Int),.none),(15,_,.none)] [7] ⟨Be (Vh s d k z w hb),Be (Tg h z w hz),rG hx1,Bk (.int .i64 (IntKind.wrap .i64 ((d:Int)+1))) η,Bk (.int .i64 (IntKind.wrap .i64 (2*(k:Int)))) η,Ll hl,trivial⟩ ·) (Ab 2 (Od (r:= .bool false) rfl))
 exact gs (Cl [(3,_,.none),(5,_,.none),(8,.bool false,.none)] [7] ⟨Be (Vh s d k z w hb),Be (Tg h z w hz),rG hx1,trivial⟩ ·) (Ab 2 (Od (r:= .bool false) rfl))
theorem Ak6 (s:Sg) (d k:Nat) (z w h:Int) (m:Nat) (hb:CB s d k z w) (hz:0<=z/\z<=h/\h<w) (hd:d<8/\k<256) (hl:AF Tryz.prog 99 [.int ((d+1):Int),.int ((2*k):Int),Hk s,Ql (Fg h),Vp s (Fg h) m] (.bool false)):AF Tryz.prog 99 [.int (d:Int),.int (k:Int),Hk s,Ql (Fg h),Vp s (Fg h) (m+1)] (.bool false):=by
 obtain⟨_,rfl,hA⟩:=Ap9 s d k z w h m hb hz hd hl
 exact hA
theorem Anz (s:Sg) (d k:Nat) (z w h:Int) (m:Nat) (hb:CB s d k z w) (hz:0<=z/\z<=h/\h<w) (hd:d<8/\k<256) (hl:AF Tryz.prog 99 [.int ((d+1):Int),.int ((2*k):Int),Hk s,Ql (Fg h),Vp s (Fg h) m] (.bool true)) (hr:AF Tryz.prog 99 [.int ((d+1):Int),.int ((2*k+1):Int),Hk s,Ql (Fg h),Vp s (Fg h) m] (.bool false)):∃r,r=AV.bool false/\AF Tryz.prog 99 [.int (d:Int),.int (k:Int),Hk s,Ql (Fg h),Vp s (Fg h) (m+1)] r:=by
 refine Av func99 rfl ?_
 refine Ab 6 (vsp ((d:Int)<8) (λhx1 hx1d=>?_) (λhx1 hx1d=>?_))
 exact gs (Cl [(3,_,.none),(5,_,.none),(8,.bool true,.none),(12,.int ((d+1:Nat):Int),.none),(14,.int ((2*k:Nat):Int),.none),(15,_,.none),(20,.int ((d+1:Nat):Int),.none),(22,.int ((2*k:Nat):Int),.none),(23,.int ((2*k+1:Nat):Int),.none),(24,_,.none)] [7] ⟨Be (Vh s d k z w hb),Be (Tg h z w hz),rG hx1,Bk (.int .i64 (IntKind.wrap .i64 ((d:Int)+1))) η,Bk (.int .i64 (IntKind.wrap .i64 (2*(k:Int)))) η,Ll hl,Bk (.int .i64 (IntKind.wrap .i64 ((d:Int)+1))) η,Bk (.int .i64 (IntKind.wrap .i64 (2*(k:Int)))) η,Bk (.int .i64 (IntKind.wrap .i64 (((2*k:Nat):Int)+1))) η,Ll hr,trivial⟩ ·) (Ab 2 (Od (r:= .bool false) rfl))
 exact gs (Cl [(3,_,.none),(5,_,.none),(8,.bool false,.none)] [7] ⟨Be (Vh s d k z w hb),Be (Tg h z w hz),rG hx1,trivial⟩ ·) (Ab 2 (Od (r:= .bool false) rfl))
theorem Abb (s:Sg) (d k:Nat) (z w h:Int) (m:Nat) (hb:CB s d k z w) (hz:0<=z/\z<=h/\h<w) (hd:d<8/\k<256) (hl:AF Tryz.prog 99 [.int ((d+1):Int),.int ((2*k):Int),Hk s,Ql (Fg h),Vp s (Fg h) m] (.bool true)) (hr:AF Tryz.prog 99 [.int ((d+1):Int),.int ((2*k+1):Int),Hk s,Ql (Fg h),Vp s (Fg h) m] (.bool false)):AF Tryz.prog 99 [.int (d:Int),.int (k:Int),Hk s,Ql (Fg h),Vp s (Fg h) (m+1)] (.bool false):=by
 obtain⟨_,rfl,hA⟩:=Anz s d k z w h m hb hz hd hl hr
 exact hA
theorem Ak8 (s:Sg) (h:Int) (hc:AF Tryz.prog 99 [.int 0,.int 0,Hk s,Ql (Fg h),Vp s (Fg h) 9] (.bool true)):∃r,r=AV.bool true/\AF Tryz.prog 70 [Jz (Fg h),Lx s] r:=by
 refine Av func70 rfl ?_
 exact Ab 12 (gs (Vz 0 ·) (gs (Vz 1 ·) (Ab 6 (gs (AoJ 2 99 (Hk s) (Ql (Fg h)) 10 ·) (Ab 3 (gs (cZ hc ·) (Ab 4 (Od (r:= .bool true) rfl))))))))
theorem lE (s:Sg) (h:Int) (hc:AF Tryz.prog 99 [.int 0,.int 0,Hk s,Ql (Fg h),Vp s (Fg h) 9] (.bool true)):AF Tryz.prog 70 [Jz (Fg h),Lx s] (.bool true):=by
 obtain⟨_,rfl,hA⟩:=Ak8 s h hc
 exact hA
theorem Ak7 (s:Sg) (h:Int) (hc:AF Tryz.prog 99 [.int 0,.int 0,Hk s,Ql (Fg h),Vp s (Fg h) 9] (.bool false)):∃r,r=AV.bool false/\AF Tryz.prog 70 [Jz (Fg h),Lx s] r:=by
 refine Av func70 rfl ?_
 exact Ab 12 (gs (Vz 0 ·) (gs (Vz 1 ·) (Ab 6 (gs (AoJ 2 99 (Hk s) (Ql (Fg h)) 10 ·) (Ab 3 (gs (cZ hc ·) (Ab 4 (Od (r:= .bool false) rfl))))))))
theorem Ach (s:Sg) (h:Int) (hc:AF Tryz.prog 99 [.int 0,.int 0,Hk s,Ql (Fg h),Vp s (Fg h) 9] (.bool false)):AF Tryz.prog 70 [Jz (Fg h),Lx s] (.bool false):=by
 obtain⟨_,rfl,hA⟩:=Ak7 s h hc
 exact hA
def Ju:Sg:=⟨0,1000,1,[0],[0],[0,0,0,5000,-7500,3000]⟩
def sgH:Sg:=⟨1000,2000,1,[0],[0],[500]⟩
def upL:List Sg:=[Ju,sgH]
theorem Jb {l:List Int} (h:l.all (λc=>decide (Cf c))=true):∀i,Cf (l.getD i 0):=by
 intro i
 rw[Γ]
 rcases Nat.lt_or_ge i l.length with g|g
 rw[List.getElem?_eq_getElem g]
 exact of_decide_eq_true (List.all_eq_true.1 h _ (List.getElem_mem g))
 rw[List.getElem?_eq_none g]
 exact Si
def axB (l:List Int) (o:Int) (d k:Nat) (z w:Int):Bool:=decide (0<l.length/\l.length<=6)&&(l.all (λc=>decide (Cf c))&&(decide (d<=8/\k<2^d)&&(decide (-9223372036854775807<=w/\w<=9223372036854775807)&&(decide (aZ l o d k=z)&&decide (Mf l o d k= -w)))))
theorem Ry {l:List Int} {o:Int} {d k:Nat} {z w:Int} (h:axB l o d k z w=true):yD l o d k/\aZ l o d k=z/\-Mf l o d k=w:=by
 simp only[axB,Bool.and_eq_true,decide_eq_true_eq] at h
 obtain⟨h1,h2,h3,h4,h5,h6⟩:=h
 refine⟨⟨⟨h1.1,h1.2,Jb h2,h3.1,h3.2⟩,?_,?_⟩,h5,?_⟩<;>rw[h6]<;>omega
theorem No (s:Sg) (d k:Nat) (z w:Int) (h:(decide (0<s.o/\s.o<=9223372036854775807)&&(axB s.x s.o d k 0 0&&(axB s.y s.o d k 0 0&&axB s.z s.o d k z w)))=true):CB s d k z w:=by
 simp only[Bool.and_eq_true,decide_eq_true_eq] at h
 obtain⟨h1,h2,h3,h4⟩:=h
 refine⟨h1,(Ry h2).1,(Ry h3).1,(Ry h4).1,?_⟩
 show Bx.mk ⟨_,_,_⟩ ⟨_,_,_⟩=Bx.mk ⟨_,_,_⟩ ⟨_,_,_⟩
 rw[(Ry h2).2.1,(Ry h2).2.2,(Ry h3).2.1,(Ry h3).2.2,(Ry h4).2.1,(Ry h4).2.2]
theorem AcZ:AF Tryz.prog 99 [.int ((0:Nat):Int),.int ((0:Nat):Int),Hk Ju,Ql (Fg 500),Vp Ju (Fg 500) 9] (.bool true):=AcK Ju 0 0 0 500 500 8 (No Ju 0 0 0 500 (by decide+kernel)) δ δ
theorem AcT:AF Tryz.prog 99 [.int ((1:Nat):Int),.int ((0:Nat):Int),Hk Ju,Ql (Fg 499),Vp Ju (Fg 499) 8] (.bool true):=AcK Ju 1 0 0 250 499 7 (No Ju 1 0 0 250 (by decide+kernel)) δ δ
theorem AcV:AF Tryz.prog 99 [.int ((2:Nat):Int),.int ((2:Nat):Int),Hk Ju,Ql (Fg 499),Vp Ju (Fg 499) 7] (.bool true):=AcK Ju 2 2 250 449 499 6 (No Ju 2 2 250 449 (by decide+kernel)) δ δ
theorem AcX:AF Tryz.prog 99 [.int ((3:Nat):Int),.int ((6:Nat):Int),Hk Ju,Ql (Fg 499),Vp Ju (Fg 499) 6] (.bool true):=AcK Ju 3 6 448 492 499 5 (No Ju 3 6 448 492 (by decide+kernel)) δ δ
theorem yR:AF Tryz.prog 99 [.int ((4:Nat):Int),.int ((14:Nat):Int),Hk Ju,Ql (Fg 499),Vp Ju (Fg 499) 5] (.bool true):=AcK Ju 4 14 491 499 499 4 (No Ju 4 14 491 499 (by decide+kernel)) δ δ
theorem tA:AF Tryz.prog 99 [.int ((8:Nat):Int),.int ((240:Nat):Int),Hk Ju,Ql (Fg 499),Vp Ju (Fg 499) 1] (.bool false):=AqO Ju 240 498 500 499 0 (No Ju 8 240 498 500 (by decide+kernel)) δ
theorem sZ:AF Tryz.prog 99 [.int ((7:Nat):Int),.int ((120:Nat):Int),Hk Ju,Ql (Fg 499),Vp Ju (Fg 499) 2] (.bool false):=Ak6 Ju 7 120 498 500 499 1 (No Ju 7 120 498 500 (by decide+kernel)) δ δ tA
theorem yU:AF Tryz.prog 99 [.int ((6:Nat):Int),.int ((60:Nat):Int),Hk Ju,Ql (Fg 499),Vp Ju (Fg 499) 3] (.bool false):=Ak6 Ju 6 60 498 500 499 2 (No Ju 6 60 498 500 (by decide+kernel)) δ δ sZ
theorem yT:AF Tryz.prog 99 [.int ((5:Nat):Int),.int ((30:Nat):Int),Hk Ju,Ql (Fg 499),Vp Ju (Fg 499) 4] (.bool false):=Ak6 Ju 5 30 498 500 499 3 (No Ju 5 30 498 500 (by decide+kernel)) δ δ yU
theorem yS:AF Tryz.prog 99 [.int ((4:Nat):Int),.int ((15:Nat):Int),Hk Ju,Ql (Fg 499),Vp Ju (Fg 499) 5] (.bool false):=Ak6 Ju 4 15 498 500 499 4 (No Ju 4 15 498 500 (by decide+kernel)) δ δ yT
theorem AcY:AF Tryz.prog 99 [.int ((3:Nat):Int),.int ((7:Nat):Int),Hk Ju,Ql (Fg 499),Vp Ju (Fg 499) 6] (.bool false):=Abb Ju 3 7 491 500 499 5 (No Ju 3 7 491 500 (by decide+kernel)) δ δ yR yS
theorem AcW:AF Tryz.prog 99 [.int ((2:Nat):Int),.int ((3:Nat):Int),Hk Ju,Ql (Fg 499),Vp Ju (Fg 499) 7] (.bool false):=Abb Ju 2 3 448 500 499 6 (No Ju 2 3 448 500 (by decide+kernel)) δ δ AcX AcY
theorem AcU:AF Tryz.prog 99 [.int ((1:Nat):Int),.int ((1:Nat):Int),Hk Ju,Ql (Fg 499),Vp Ju (Fg 499) 8] (.bool false):=Abb Ju 1 1 250 500 499 7 (No Ju 1 1 250 500 (by decide+kernel)) δ δ AcV AcW
theorem AcS:AF Tryz.prog 99 [.int ((0:Nat):Int),.int ((0:Nat):Int),Hk Ju,Ql (Fg 499),Vp Ju (Fg 499) 9] (.bool false):=Abb Ju 0 0 0 500 499 8 (No Ju 0 0 0 500 (by decide+kernel)) δ δ AcT AcU
theorem cxh:AF Tryz.prog 99 [.int ((0:Nat):Int),.int ((0:Nat):Int),Hk sgH,Ql (Fg 500),Vp sgH (Fg 500) 9] (.bool true):=AcK sgH 0 0 500 500 500 8 (No sgH 0 0 500 500 (by decide+kernel)) δ δ
theorem Anx:AF Tryz.prog 70 [Jz (Fg 500),Lx Ju] (.bool true):=lE Ju 500 AcZ
theorem Anv:AF Tryz.prog 70 [Jz (Fg 500),Lx sgH] (.bool true):=lE sgH 500 cxh
theorem Anw:AF Tryz.prog 70 [Jz (Fg 499),Lx Ju] (.bool false):=Ach Ju 499 AcS
theorem Ao8:Yf Ju:=⟨δ,δ,δ,Jb δ,Jb δ,Jb δ⟩
theorem Ao7:Yf sgH:=⟨δ,δ,δ,Jb δ,Jb δ,Jb δ⟩
theorem AoG:Pz upL:=⟨δ,λi=>by
 match i with
 |0=>exact Ao8
 |1=>exact Ao7
 |i+2=>exact show Yf Sg.none from⟨δ,δ,δ,Jb (l:=[]) rfl,Jb (l:=[]) rfl,Jb (l:=[]) rfl⟩⟩
theorem AoH:Wy upL:=by decide+kernel
theorem AfF:AF Tryz.prog 67 [Gf upL] (.bool true):=by
 have h:=Xz upL AoG
 rwa [show bP (Wy upL)=true by unfold bP;exact @decide_eq_true _ (Classical.propDecidable _) AoH] at h
theorem Adm:∃r,r=AV.lit (.tuple #[.int .i64 0,.bool false,.int .i64 0])/\AF Tryz.prog 44 [Jz (Fg 500),Gf upL] r:=by
 refine Av func44 rfl ?_
 exact Ab 12 (gs (Ao (Rt 500 δ) ·) (Ab 3 (gs (Ao AfF ·) (Ab 7 (gs (Vz 0 ·) (Ab 4 (cX func68 (Ab 14 (gs (Mg 2 ·) (Ab 22 (gs (Fd 0 2 ·) (Ab 1 (vT func69 (Ab 10 (gs (Ao Anx ·) (Ab 5 (Ix (Ab 33 (gs (Fd 1 2 ·) (Ab 1 (vT func69 (Ab 10 (gs (Ao Anv ·) (Ab 5 (Ix (Ab 29 (Ix (Ab 6 (gs (Ci (.int (max 0 (-1))) .none (Ip (.const (.int .i64 0)) (.tmp 19) #[3,3] κ 0 (-1) κ κ) ·) (Ab 8 (Od (r:= .lit (.tuple #[.int .i64 0,.bool false,.int .i64 0])) rfl)))))))))))))))))))))))))))))))
theorem Ahi:AF Tryz.prog 44 [Jz (Fg 500),Gf upL] (.lit (.tuple #[.int .i64 0,.bool false,.int .i64 0])):=by
 obtain⟨_,rfl,hA⟩:=Adm
 exact hA
theorem tX:∃r,r=AV.lit (.tuple #[.bool true,.int .i64 0])/\AF Tryz.prog 32 [Jz (Fg 500),Gf upL] r:=by
 refine Av func32 rfl ?_
 exact Ab 11 (gs (Ao Ahi ·) (Ab 23 (Od (r:= .lit (.tuple #[.bool true,.int .i64 0])) rfl)))
theorem zR:AF Tryz.prog 32 [Jz (Fg 500),Gf upL] (.lit (.tuple #[.bool true,.int .i64 0])):=by
 obtain⟨_,rfl,hA⟩:=tX
 exact hA
theorem Adl:∃r,r=AV.lit (.tuple #[.int .i64 0,.bool true,.int .i64 0])/\AF Tryz.prog 44 [Jz (Fg 499),Gf upL] r:=by
 refine Av func44 rfl ?_
 exact Ab 12 (gs (Ao (Rt 499 δ) ·) (Ab 3 (gs (Ao AfF ·) (Ab 7 (gs (Vz 0 ·) (Ab 4 (cX func68 (Ab 14 (gs (Mg 1 ·) (Ab 22 (gs (Fd 0 2 ·) (Ab 1 (vT func69 (Ab 10 (gs (Ao Anw ·) (Ab 5 (Ix (Ab 15 (Ix (Ab 6 (gs (Ci (.int (max 0 0)) .none (Ip (.const (.int .i64 0)) (.tmp 19) #[3,3] κ 0 0 κ κ) ·) (Ab 8 (Od (r:= .lit (.tuple #[.int .i64 0,.bool true,.int .i64 0])) rfl)))))))))))))))))))))))
theorem Ahh:AF Tryz.prog 44 [Jz (Fg 499),Gf upL] (.lit (.tuple #[.int .i64 0,.bool true,.int .i64 0])):=by
 obtain⟨_,rfl,hA⟩:=Adl
 exact hA
theorem tW:∃r,r=AV.lit (.tuple #[.bool false,.int .i64 0])/\AF Tryz.prog 32 [Jz (Fg 499),Gf upL] r:=by
 refine Av func32 rfl ?_
 exact Ab 11 (gs (Ao Ahh ·) (Ab 23 (Od (r:= .lit (.tuple #[.bool false,.int .i64 0])) rfl)))
theorem zQ:AF Tryz.prog 32 [Jz (Fg 499),Gf upL] (.lit (.tuple #[.bool false,.int .i64 0])):=by
 obtain⟨_,rfl,hA⟩:=tW
 exact hA
def aA:Pr:=⟨[⟨#[97]⟩],[⟨0,0,0⟩],[⟨⟨#[117,112]⟩,2000,[⟨⟨0,0,500⟩,0,1000,0⟩]⟩]⟩
theorem Aa9:fF aA:=⟨δ,δ,δ,δ,δ⟩
theorem bE:Ef aA=true:=by decide+kernel
theorem vZ:Hj aA 1 0=upL:=κ
theorem Amj:Fo aA.acts 1=2000:=by decide
theorem Ro (p:Pr) (hp:fF p) (h:Ef p=true) (hk:0<p.acts.length):AF Tryz.prog 31 [Ie p] (.tup [.sl 1 p.names.length λi=>Gf (Hj p p.acts.length i),.int 0]):=by
 have ho:=Vb h
 refine Au func31 rfl λB D0 hA0=>?_
 exact Ae 12 (Ao (Hb p hp) (Ae 4 (La 4 (!Ef p) false (by rw[h];rfl) (Ae 7 (La 12 (decide ((p.acts.length:Int)=0)) false (decide_eq_false ω) (Ae 10 (Ao (AmW p hp ho) (Ae 5 (Cm)))))))))
abbrev pmA (h:Int):AV:= .agg [Cj (Fg h).o,hsA (Fg h),.int 0,.int h,.int 1000,.int 3000,.int 1]
abbrev Jc (k:Int) (_:Nat):AV:= .lit (.agg #[.int .i64 k,.int .i64 0])
theorem Rq:AF Tryz.prog 29 [Ie aA] (.bool true):=by
 have h:=Hb aA Aa9
 rwa [bE] at h
theorem Xy:AF Tryz.prog 30 [Ie aA] (.lit (.tuple #[.int .i64 2000,.int .i64 0])):=by
 have h:=lH aA Aa9 bE
 rw[show Fo aA.acts aA.acts.length=2000 from Amj] at h
 exact h
theorem Rp:AF Tryz.prog 31 [Ie aA] (.tup [.sl 1 1 λi=>Gf (Hj aA 1 i),.int 0]):=Ro aA Aa9 bE δ
theorem AnO:AF Tryz.prog 32 [Jz (Fg 500),Gf (Hj aA 1 0)] (.lit (.tuple #[.bool true,.int .i64 0])):=by
 have h:=zR
 rw[<-vZ] at h
 exact h
theorem AqW:AF Tryz.prog 32 [Jz (Fg 499),Gf (Hj aA 1 0)] (.lit (.tuple #[.bool false,.int .i64 0])):=by
 have h:=zQ
 rw[<-vZ] at h
 exact h
theorem Rm (h:Int) (hh:0<=h/\h<=1048576):AF Tryz.prog 28 [pmA h] (.bool true):=by
 refine Au func28 rfl λB D0 hA0=>?_
 exact Ae 10 (Ao (Rt h hh) (Ae 5 (Bo (.int .i64 2999) (.int .i64 2999) (Ao (It 1000 0 2999 δ) (Ae 4 (Ao (It 3000 1 86400000 δ) (Ae 4 (Ao (It 1 1 64 δ) (Ae 5 (Cm))))))))))
theorem AnS:AF Tryz.prog 13 [pmA 500,Ie aA,.int 1000] (.lit (.tuple #[.slice none 0 0,.int .i64 0])):=by
 refine Au func13 rfl λB D0 hA0=>?_
 exact Ae 14 (Ao (Rm 500 δ) (Ae 8 (Ao Rq (Ae 7 (Ao (It 1000 0 86400000 δ) (Ae 21 (Ao Xy (Ae 27 (Bo (.int .i64 3000) (.int .i64 3000) (Ae 8 (Mg 4 (Ae 14 (Bo (.bool false) (.bool false) (Ae 14 (Bo (.int .i64 1) (.int .i64 1) (Ae 17 (Bo (.bool false) (.bool false) (Ae 14 (Bo (.int .i64 2) (.int .i64 2) (Ae 17 (Bo (.bool false) (.bool false) (Ae 14 (Bo (.int .i64 3) (.int .i64 3) (Ae 17 (Bo (.bool false) (.bool false) (Ae 14 (Bo (.int .i64 4) (.int .i64 4) (Ae 18 (Ao Rp (Ae 16 (Mg 1 (Ae 14 (Fd 0 1 (Ae 10 (Ao AnO (Ae 22 (Bo (.int .i64 1) (.int .i64 1) (Ae 23 (Cm)))))))))))))))))))))))))))))))))))))))
theorem AnT:AF Tryz.prog 13 [pmA 500,Ie aA,.int 999] (.tup [.sl 2 1 (Jc 2),.int 0]):=by
 refine Au func13 rfl λB D0 hA0=>?_
 refine Ae 14 (Ao (Rm 500 δ) (Ae 8 (Ao Rq (Ae 7 (Ao (It 999 0 86400000 δ) (Ae 21 (Ao Xy (Ae 27 (Bo (.int .i64 2999) (.int .i64 2999) (Ae 8 (Mg 4 (Ae 14 (Bo (.bool false) (.bool false) (Ae 14 (Bo (.int .i64 1) (.int .i64 1) (Ae 17 (Bo (.bool false) (.bool false) (Ae 14 (Bo (.int .i64 2) (.int .i64 2) (Ae 17 (Bo (.bool true) (.bool true) (Ae 14 (Oh 2 55 2 1 (λ_=> .lit (.agg #[.int .i64 2,.int .i64 0])) ?_)))))))))))))))))))))))
 refine rC 16 55 55 2 1 2 3 (λ_=> .lit (.agg #[.int .i64 2,.int .i64 0])) (λ_=> .lit (.agg #[.int .i64 2,.int .i64 0])) (λi hi=>rfl) ?_
 exact Ae 5 (Bo (.int .i64 3) (.int .i64 3) (Ae 17 (Bo (.bool false) (.bool false) (Ae 14 (Bo (.int .i64 4) (.int .i64 4) (Ae 18 (Ao Rp (Ae 16 (Mg 1 (Ae 14 (Fd 0 1 (Ae 10 (Ao AnO (Ae 22 (Bo (.int .i64 1) (.int .i64 1) (Ae 22 (rD 3 [6] 55 2 1 (λ_=> .lit (.agg #[.int .i64 2,.int .i64 0])) (Df λ_ _=>rfl) (Ae 1 (Cm)))))))))))))))))))
theorem AnU:AF Tryz.prog 13 [pmA 500,Ie aA,.int 1001] (.tup [.sl 2 1 (Jc 3),.int 0]):=by
 refine Au func13 rfl λB D0 hA0=>?_
 refine Ae 14 (Ao (Rm 500 δ) (Ae 8 (Ao Rq (Ae 7 (Ao (It 1001 0 86400000 δ) (Ae 21 (Ao Xy (Ae 27 (Bo (.int .i64 3001) (.int .i64 3001) (Ae 8 (Mg 4 (Ae 14 (Bo (.bool false) (.bool false) (Ae 14 (Bo (.int .i64 1) (.int .i64 1) (Ae 17 (Bo (.bool false) (.bool false) (Ae 14 (Bo (.int .i64 2) (.int .i64 2) (Ae 17 (Bo (.bool false) (.bool false) (Ae 14 (Bo (.int .i64 3) (.int .i64 3) (Ae 17 (Bo (.bool true) (.bool true) (Ae 14 (Oh 2 55 2 1 (λ_=> .lit (.agg #[.int .i64 3,.int .i64 0])) ?_)))))))))))))))))))))))))))
 refine rC 16 55 55 2 1 2 3 (λ_=> .lit (.agg #[.int .i64 3,.int .i64 0])) (λ_=> .lit (.agg #[.int .i64 3,.int .i64 0])) (λi hi=>rfl) ?_
 exact Ae 5 (Bo (.int .i64 4) (.int .i64 4) (Ae 18 (Ao Rp (Ae 16 (Mg 1 (Ae 14 (Fd 0 1 (Ae 10 (Ao AnO (Ae 22 (Bo (.int .i64 1) (.int .i64 1) (Ae 22 (rD 3 [6] 55 2 1 (λ_=> .lit (.agg #[.int .i64 3,.int .i64 0])) (Df λ_ _=>rfl) (Ae 1 (Cm)))))))))))))))
theorem AnV:AF Tryz.prog 13 [pmA 499,Ie aA,.int 1000] (.tup [.sl 2 1 (Jc 4),.int 0]):=by
 refine Au func13 rfl λB D0 hA0=>?_
 refine Ae 14 (Ao (Rm 499 δ) (Ae 8 (Ao Rq (Ae 7 (Ao (It 1000 0 86400000 δ) (Ae 21 (Ao Xy (Ae 27 (Bo (.int .i64 3000) (.int .i64 3000) (Ae 8 (Mg 4 (Ae 14 (Bo (.bool false) (.bool false) (Ae 14 (Bo (.int .i64 1) (.int .i64 1) (Ae 17 (Bo (.bool false) (.bool false) (Ae 14 (Bo (.int .i64 2) (.int .i64 2) (Ae 17 (Bo (.bool false) (.bool false) (Ae 14 (Bo (.int .i64 3) (.int .i64 3) (Ae 17 (Bo (.bool false) (.bool false) (Ae 14 (Bo (.int .i64 4) (.int .i64 4) (Ae 18 (Ao Rp (Ae 16 (Mg 1 (Ae 14 (Fd 0 1 (Ae 10 (Ao AqW (Ae 22 (Oh 2 55 2 1 (λ_=> .lit (.agg #[.int .i64 4,.int .i64 0])) ?_)))))))))))))))))))))))))))))))))))))
 refine rC 16 55 55 2 1 2 3 (λ_=> .lit (.agg #[.int .i64 4,.int .i64 0])) (λ_=> .lit (.agg #[.int .i64 4,.int .i64 0])) (λi hi=>rfl) ?_
 exact Ae 5 (Bo (.int .i64 1) (.int .i64 1) (Ae 22 (rD 3 [6] 55 2 1 (λ_=> .lit (.agg #[.int .i64 4,.int .i64 0])) (Df λ_ _=>rfl) (Ae 1 (Cm)))))
end Go.Proofs.YtkpjchfniejdoaaGreatDoor