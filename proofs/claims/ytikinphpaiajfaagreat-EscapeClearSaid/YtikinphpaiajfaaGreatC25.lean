/- Part 25 of the proof of EC.row_holds, joined by program: no condition beyond the row's own. -/
import Derived.Test.YtikinphpaiajfaaGreatC24
import Derived.Test.YtikinphpaiajfaaGreatRows
import Derived.LaidMore
import Derived.OpenShut
import Derived.ShutString
import Derived.ChangeOld
import Derived.Lib.LaidTab
import Derived.Stop.Joined
import Derived.HandedShaped
import Derived.Deep.Fields
set_option maxRecDepth 100000
set_option maxHeartbeats 40000000
namespace Go.Proofs.YtikinphpaiajfaaGreat.Open
open Go.ChangeShapes Go.WideShapes Go.ChangeAt Go.RowKit Go.Deep
section
variable {H:Type} {enc:TypeId×Value->H} {W:World} {n:Nat} {y:DataW H×List MemPlace} {cs:List Value}
theorem AaV (hl:cs.length=3) (h:DataW.trod enc Tryz.prog W 0 (λ_=>true) true n 52 cs=some y):∃a:Ac,AcD W (rg 0 W.heap.size) a cs/\(a.name.size<=maxLen/\Cc a.len):=by
 match cs,hl with
 |[a,b,c],_=>
  obtain⟨m0,z0,h0⟩:=Ha (ty:=9) (off:=0) Tryz.underlying52 h 0 (by rfl)
  obtain⟨m1,z1,h1⟩:=Ha (ty:=3) (off:=1) Tryz.underlying52 h 1 (by rfl)
  obtain⟨m2,z2,h2⟩:=Ha (ty:=50) (off:=2) Tryz.underlying52 h 2 (by rfl)
  simp only[Adk,Ain,Agz] at h0 h1 h2
  obtain⟨s,e0,_,hs⟩:=DataW.trod_string Tryz.underlying9 h0
  obtain⟨k1,e1,f1⟩:=Gw h1
  obtain⟨ad,len,cap,e2⟩:=Go.Joins.slice_form Tryz.underlying50 h2
  rw[e2] at h2
  obtain⟨l,g1,g2,g3,_⟩:=Kt Tryz.underlying50 AiV δ h2
  obtain⟨L,L1,L2⟩:=Wy (cells:=Mv.cells) l (λcs hc=>by obtain⟨hl,n,y,ht⟩:=g2 cs hc;exact AaW hl ht)
  simp at e0 e1 e2
  refine⟨⟨s,k1,L⟩,⟨.slice ad len cap,by simp[e0,e1,e2],?_⟩,hs,f1⟩
  show Cy W _ 6 _ L.length (mvs L)
  have hL:L.length=len:=by omega
  rw[hL]
  unfold mvs
  rw[<-L2]
  exact g3
theorem nP:∀(l:List (List Value)) (_:∀cs∈l,∃a:Ac,AcD W (rg 0 W.heap.size) a cs/\(a.name.size<=maxLen/\Cc a.len)),∃L:List Ac,L.length=l.length/\Se W (rg 0 W.heap.size) L l.flatten/\∀a∈L,(a.name.size<=maxLen/\Cc a.len)
 |[],_=>⟨[],rfl,rfl,by simp⟩
 |cs::l,h=>by
  obtain⟨a,ha,hs⟩:=h cs (by simp)
  obtain⟨L,h1,h2,h3⟩:=nP l (λc hc=>h c (by simp[hc]))
  refine⟨a::L,by simp[h1],⟨cs,l.flatten,by simp,ha,h2⟩,λx hx=>?_⟩
  rcases List.mem_cons.1 hx with rfl|hx
  exact hs
  exact h3 x hx
theorem open_prog2 {v:Value} {d:DataW H} {p:List MemPlace} {base:Nat} (hv:Value.okWide Tryz.prog W .any base 26 v) (h:DataW.Trod enc Tryz.prog W 0 (λ_=>true) true 26 v d p):
  ∃(vn vh va:Value) (pr:Pr),v= .agg #[vn,vh,va]/\Kd W W.heap.size vn vh va pr/\(∀s∈pr.names,s.size<=maxLen)/\(∀a∈pr.acts,(a.name.size<=maxLen/\Cc a.len)):=by
 obtain⟨v0,v1,v2,y0,y1,y2,n,rfl,_,_,h0,h1,h2⟩:=Go.Joins.open_agg3 Tryz.underlying26 κ κ hv h
 obtain⟨a0,l0,c0,e0⟩:=Go.Joins.slice_form Tryz.underlying22 h0
 obtain⟨a1,l1,c1,e1⟩:=Go.Joins.slice_form Tryz.underlying23 h1
 obtain⟨a2,l2,c2,e2⟩:=Go.Joins.slice_form Tryz.underlying24 h2
 obtain rfl:v0= .slice a0 l0 c0:=by simpa using e0
 obtain rfl:v1= .slice a1 l1 c1:=by simpa using e1
 obtain rfl:v2= .slice a2 l2 c2:=by simpa using e2
 obtain⟨N,hN,sN,_,zN⟩:=uE h0
 obtain⟨lh,g1,g2,g3,_⟩:=Kt Tryz.underlying23 wQ δ h1
 obtain⟨Hm,H1,H2⟩:=Wy (cells:=λv:V3=>[.int .i64 v.x,.int .i64 v.y,.int .i64 v.z]) lh (λcs hc=>by obtain⟨hl,n,y,ht⟩:=g2 cs hc;exact Xg hl ht)
 obtain⟨la,k1,k2,k3,_⟩:=Kt Tryz.underlying24 Ak1 δ h2
 obtain⟨Ac,A1,A2,A3⟩:=nP la (λcs hc=>by obtain⟨hl,n,y,ht⟩:=k2 cs hc;exact AaV hl ht)
 refine⟨_,_,_,⟨N,Hm,Ac⟩,rfl,⟨sN,?_,la.flatten,?_,A2⟩,zN,A3⟩
 have hL:Hm.length=l1:=by omega
 show Ce W 0 W.heap.size 3 _ Hm.length (Ic Hm)
 rw[hL]
 unfold Ic
 rw[<-H2]
 exact g3
 have hL:Ac.length=l2:=by omega
 show Ce W 0 W.heap.size 3 _ Ac.length _
 rw[hL]
 exact k3
theorem AeE {a0:Option Addr} {len0 cap0 fuel:Nat} {t e:TypeId} (ht:Tryz.prog.underlying t=some (.slice e)) (h:DataW.trod enc Tryz.prog W 0 (λ_=>true) true fuel t [.slice a0 len0 cap0]=some y):len0<=cap0:=by
 rcases open_slice ht h with⟨hcs,_⟩|⟨x,n,c,m,nn,D,Pl,hcs,_,hl,hm,hmm,_,hi⟩
 simp at hcs
 obtain⟨rfl,rfl,rfl⟩:=hcs
 exact Nat.le_refl _
 simp at hcs
 obtain⟨rfl,rfl,rfl⟩:=hcs
 have hmm':m=cap0:=by simpa using hmm
 omega
theorem AiW:Tryz.prog.cellsOf 23=1:=by kernel_rfl
theorem open_desc {v:Value} {d:DataW H} {p:List MemPlace} {base:Nat} (hv:Value.okWide Tryz.prog W .any base 28 v) (h:DataW.Trod enc Tryz.prog W 0 (λ_=>true) true 28 v d p):
  ∃(A:Option Addr) (c:Nat) (de:De),v= .agg #[.slice A de.sides.length c,.int .i64 de.across,.int .i64 de.down,.int .i64 de.ground]/\Ce W 0 W.heap.size 3 (.slice A de.sides.length c) de.sides.length (Ic de.sides)/\de.sides.length<=c/\Cc de.across/\Cc de.down/\Cc de.ground:=by
 obtain⟨v0,v1,v2,v3,y0,y1,y2,y3,n,rfl,_,_,h0,h1,h2,h3⟩:=Go.Joins.open_agg4 Tryz.underlying28 κ κ hv h
 obtain⟨a0,l0,c0,e0⟩:=Go.Joins.slice_form Tryz.underlying23 h0
 obtain rfl:v0= .slice a0 l0 c0:=by simpa using e0
 obtain⟨k1,e1,f1⟩:=Gw h1
 obtain⟨k2,e2,f2⟩:=Gw h2
 obtain⟨k3,e3,f3⟩:=Gw h3
 have hc:=AeE Tryz.underlying23 h0
 obtain⟨lh,g1,g2,g3,_⟩:=Kt Tryz.underlying23 wQ δ h0
 obtain⟨Hm,H1,H2⟩:=Wy (cells:=λv:V3=>[.int .i64 v.x,.int .i64 v.y,.int .i64 v.z]) lh (λcs hc=>by obtain⟨hl,n,y,ht⟩:=g2 cs hc;exact Xg hl ht)
 have hL:Hm.length=l0:=by omega
 subst hL
 simp at e1 e2 e3
 refine⟨a0,c0,⟨Hm,k1,k2,k3⟩,by simp[e1,e2,e3],?_,hc,f1,f2,f3⟩
 show Ce W 0 W.heap.size 3 _ Hm.length (Ic Hm)
 unfold Ic
 rw[<-H2]
 exact g3
theorem open_case {v:Value} {d:DataW H} {p:List MemPlace} {base:Nat} (hv:Value.okWide Tryz.prog W .any base 30 v) (h:DataW.Trod enc Tryz.prog W 0 (λ_=>true) true 30 v d p):
  ∃c:Cs,v= .agg #[.int .i64 c.craft,.int .i64 c.act]/\Sh c:=by
 obtain⟨v0,v1,y0,y1,n,rfl,_,_,h0,h1⟩:=Go.Joins.open_agg2 Tryz.underlying30 κ κ hv h
 obtain⟨k0,e0,f0⟩:=Gw h0
 obtain⟨k1,e1,f1⟩:=Gw h1
 simp at e0 e1
 exact⟨⟨k0,k1⟩,by simp[e0,e1],⟨f0,f1⟩⟩
end
end Go.Proofs.YtikinphpaiajfaaGreat.Open
namespace Go.Proofs.YtikinphpaiajfaaGreat
open Go.RowKit
theorem mB {w:World} {D:Nat->Prop} {l:List V3} {v:Value} (h:Cy w D 3 v l.length (Ic l)) {E:Bc} (hw:E.w=w) (hD:∀b,D b->E.D b):VR E (Ts l) v:=
 Ok h hw hD λi j hi hj=>by
  have:=Pt (λv:V3=>[Value.int .i64 v.x,.int .i64 v.y,.int .i64 v.z]) 3 (λ_=>rfl) l i j V3.zero hi hj
  unfold Ic
  rw[this]
  match j,hj with
  |0,_=>exact .lit _ _
  |1,_=>exact .lit _ _
  |2,_=>exact .lit _ _
theorem Aj4 {w:World} {D:Nat->Prop} {l:List Mv} {v:Value} (h:Cy w D 6 v l.length (mvs l)) {E:Bc} (hw:E.w=w) (hD:∀b,D b->E.D b):VR E (AaG l) v:=
 Ok h hw hD λi j hi hj=>by
  have:=Pt Mv.cells 6 (λ_=>rfl) l i j Mv.none hi hj
  unfold mvs
  rw[this]
  match j,hj with
  |0,_=>exact .lit _ _
  |1,_=>exact .lit _ _
  |2,_=>exact .lit _ _
  |3,_=>exact .lit _ _
  |4,_=>exact .lit _ _
  |5,_=>exact .lit _ _
theorem Aey {w:World} {D:Nat->Prop} {l:List ByteArray} {v:Value} (h:Cy w D 1 v l.length (strs l)) {E:Bc} (hw:E.w=w) (hD:∀b,D b->E.D b):VR E (Nf l) v:=
 Ok h hw hD λi j hi hj=>by
  obtain rfl:j=0:=by omega
  have e:(strs l).getD (i*1+0) undef= .string (l.getD i ByteArray.empty):=by simp[strs,List.getD_eq_getElem?_getD,hi]
  rw[e]
  exact .lit _ _
theorem Agn {w:World} {D:Nat->Prop} {l:List Ac} {v:Value} {cs:List Value} (h:Cy w D 3 v l.length cs) (ha:Se w D l cs) {E:Bc} (hw:E.w=w) (hD:∀b,D b->E.D b):VR E (Lv l) v:=
 Ok h hw hD λi j hi hj=>by
  obtain⟨vm,hm,hat⟩:=ha.at_ hi
  have e:l.getD i Ac.none=l[i]:=by rw[List.getD_eq_getElem?_getD,List.getElem?_eq_getElem hi];rfl
  have g:∀u,[Value.string l[i].name,.int .i64 l[i].len,vm][j]?=some u->cs.getD (i*3+j) undef=u:=λu hu=>by
   rw[List.getD_eq_getElem?_getD,hat j u hu];rfl
  rw[e]
  match j,hj with
  |0,_=>rw[g _ rfl];exact .lit _ _
  |1,_=>rw[g _ rfl];exact .lit _ _
  |2,_=>rw[g _ rfl];exact Aj4 (E:=E.fz) hm hw hD
theorem Ahs {w:World} {hi:Nat} {vn vh va:Value} {p:Pr} (h:Kd w hi vn vh va p) {E:Bc} (hw:E.w=w) (hD:∀b,b<hi->E.D b):VR E (Hc p) (.agg #[vn,vh,va]):=by
 obtain⟨cs,k1,k2⟩:=h.acts
 have hD2:∀b,rg 0 hi b->E.D b:=λb hb=>hD b hb.2
 refine .agg _ _ _ rfl λi hi=>?_
 have h3:i<3:=hi
 match i,h3 with
 |0,_=>exact Aey h.names hw hD2
 |1,_=>exact mB h.homes hw hD2
 |2,_=>exact Agn k1 k2 hw hD2
theorem Ag8 {w:World} {A:Option Addr} {c:Nat} {d:De} (h:Ce w 0 w.heap.size 3 (.slice A d.sides.length c) d.sides.length (Ic d.sides)) (hc:d.sides.length<=c) {E:Bc} (hw:E.w=w) (hD:∀b,b<w.heap.size->E.D b):VR E (Jt d) (.agg #[.slice A d.sides.length c,.int .i64 d.across,.int .i64 d.down,.int .i64 d.ground]):=by
 refine .agg _ _ _ rfl λi hi=>?_
 have h3:i<4:=hi
 match i,h3 with
 |0,_=>exact .slc _ _ _ _ _ _ hc (mB h hw λb hb=>hD b hb.2)
 |1,_=>exact .lit _ _
 |2,_=>exact .lit _ _
 |3,_=>exact .lit _ _
end Go.Proofs.YtikinphpaiajfaaGreat
namespace Go.Proofs.YtikinphpaiajfaaGreat
theorem AgS {k:Int} (h:(Lit.int IntKind.i64 k).wf=true):Cc k:=by
 simp[Lit.wf,IntKind.min,IntKind.max,IntKind.signed,IntKind.bits] at h
 exact⟨ω,ω⟩
end Go.Proofs.YtikinphpaiajfaaGreat
namespace Go.Proofs.YtikinphpaiajfaaGreat
open Go.Proofs.Tryz
open Go.RowKit
theorem nI {f:FuncId} {args args':List AV} {r r':AV} (h:AF Tryz.prog f args r) (hl:args'.length=args.length) (ha:∀i,i<args.length->∀E v,VR E (args'.getD i .top) v->VR E (args.getD i .top) v) (hr:∀E v,VR E r v->VR E r' v):AF Tryz.prog f args' r':=λE vs hD hn hv=>by
 refine Calls.mono (h E vs hD ω λi hi=>ha i hi _ _ (hv i ω)) ?_
 rintro e w' ⟨v,D',h1,h2,h3⟩
 exact⟨v,D',h1,hr _ _ h2,h3⟩
theorem VR.nil_path {E:Bc} {v:Value} (h:VR E (.lit (.slice none 0 0)) v):VR E (Bq []) v:=by
 have:=h.lit_inv
 subst this
 exact .sl0 _ _ _ _ _
noncomputable def Kk (a b:List Sg×Int):List Sg×Int:=if a.2=0/\b.2=0 then (if a.1.length=0 then (b.1,0) else Dz a.1 b.1) else ([],max a.2 b.2)
abbrev uL (r:List Sg×Int):AV:= .tup [Bq r.1,.int r.2]
theorem nS {a b:List Sg} (h:(Dz a b).2≠0):(Dz a b).1=[]:=by
 unfold Dz at*
 split
 rfl
 rename_i h1
 rw[if_neg h1] at h
 split
 rfl
 rename_i h2
 rw[if_neg h2] at h
 split
 rfl
 rename_i h3
 rw[if_neg h3] at h
 exact absurd rfl h
theorem mP (a b:List Sg) (e f:Int) (_:Cc e) (_:Cc f) (h:¬e=0):AF Tryz.prog 32 [Bq a,.int e,Bq b,.int f] (.lit (.tuple #[.slice none 0 0,.int .i64 (max e f)])):=by
 refine Be func32 rfl λB D0 hA0=>?_
 exact Ab 12 (Dy 12 (!decide (e=0)) true (by rw[(decide_eq_false h)];rfl) (Ab 10 (Bi (.int (max e f)) .none (Of (.tmp 16) (.tmp 17) #[38,38] κ e f κ κ) (Ab 6 (Cu)))))
theorem mQ (a b:List Sg) (e f:Int) (_:Cc e) (_:Cc f) (h0:e=0) (h:¬f=0):AF Tryz.prog 32 [Bq a,.int e,Bq b,.int f] (.lit (.tuple #[.slice none 0 0,.int .i64 (max e f)])):=by
 refine Be func32 rfl λB D0 hA0=>?_
 exact Ab 12 (Dy 12 (!decide (e=0)) false (by rw[(decide_eq_true h0)];rfl) (Ab 5 (Dy 15 (!decide (f=0)) true (by rw[(decide_eq_false h)];rfl) (Ab 5 (Bi (.int (max e f)) .none (Of (.tmp 16) (.tmp 17) #[38,38] κ e f κ κ) (Ab 6 (Cu)))))))
theorem mM (a b:List Sg) (e f:Int) (_:Cc e) (_:Cc f) (h0:e=0) (h1:f=0) (_:a.length<=1000000) (h:(a.length:Int)=0):AF Tryz.prog 32 [Bq a,.int e,Bq b,.int f] (.tup [Bq b,.int 0]):=by
 refine Be func32 rfl λB D0 hA0=>?_
 exact Ab 12 (Dy 12 (!decide (e=0)) false (by rw[(decide_eq_true h0)];rfl) (Ab 5 (Dy 15 (!decide (f=0)) false (by rw[(decide_eq_true h1)];rfl) (Ab 11 (Dy 21 (decide (((a).length:Int)=0)) true (decide_eq_true h) (Ab 10 (Cu)))))))
theorem mN (a b:List Sg) (e f:Int) (_:Cc e) (_:Cc f) (h0:e=0) (h1:f=0) (hpa:Bj a) (hpb:Bj b) (h2:¬(a.length:Int)=0) (h:(Dz a b).2=0):AF Tryz.prog 32 [Bq a,.int e,Bq b,.int f] (.tup [Bq (Dz a b).1,.int 0]):=by
 refine Be func32 rfl λB D0 hA0=>?_
 exact Ab 12 (Dy 12 (!decide (e=0)) false (by rw[(decide_eq_true h0)];rfl) (Ab 5 (Dy 15 (!decide (f=0)) false (by rw[(decide_eq_true h1)];rfl) (Ab 11 (Dy 21 (decide (((a).length:Int)=0)) false (decide_eq_false h2) (Ab 7 (Aw (Kb a b hpa hpb h) (Ab 7 (Cu)))))))))
theorem mO (a b:List Sg) (e f:Int) (_:Cc e) (_:Cc f) (h0:e=0) (h1:f=0) (hpa:Bj a) (hpb:Bj b) (h2:¬(a.length:Int)=0) (h:¬(Dz a b).2=0):AF Tryz.prog 32 [Bq a,.int e,Bq b,.int f] (.lit (.tuple #[.slice none 0 0,.int .i64 (Dz a b).2])):=by
 refine Be func32 rfl λB D0 hA0=>?_
 exact Ab 12 (Dy 12 (!decide (e=0)) false (by rw[(decide_eq_true h0)];rfl) (Ab 5 (Dy 15 (!decide (f=0)) false (by rw[(decide_eq_true h1)];rfl) (Ab 11 (Dy 21 (decide (((a).length:Int)=0)) false (decide_eq_false h2) (Ab 7 (Aw (La a b hpa hpb h) (Ab 7 (Cu)))))))))
theorem VR.nil_P {E:Bc} {v:Value} {e:Int} (h:VR E (.lit (.tuple #[.slice none 0 0,.int .i64 e])) v):VR E (uL ([],e)) v:=by
 have:=h.lit_inv
 subst this
 refine .tup _ _ _ rfl λi hi=>?_
 match i,hi with
 |0,_=>exact .sl0 _ _ _ _ _
 |1,_=>exact .lit _ _
theorem Tv (a b:List Sg×Int) (ha:Bj a.1) (hb:Bj b.1) (he:Cc a.2) (hf:Cc b.2):AF Tryz.prog 32 [Bq a.1,.int a.2,Bq b.1,.int b.2] (uL (Kk a b)):=by
 unfold Kk
 by_cases h:a.2=0/\b.2=0
 rw[if_pos h]
 by_cases h2:a.1.length=0
 rw[if_pos h2]
 exact mM a.1 b.1 a.2 b.2 he hf h.1 h.2 ha.1 ω
 rw[if_neg h2]
 by_cases h3:(Dz a.1 b.1).2=0
 have:=mN a.1 b.1 a.2 b.2 he hf h.1 h.2 ha hb ω h3
 rw[uL,h3];exact this
 refine nI (mO a.1 b.1 a.2 b.2 he hf h.1 h.2 ha hb ω h3) rfl (λ_ _ _ _ h=>h) λE v hv=>?_
 have:=hv.nil_P
 have e:Dz a.1 b.1=([],(Dz a.1 b.1).2):=Prod.ext (nS h3) rfl
 rw[e];exact this
 rw[if_neg h]
 refine nI (args:=[Bq a.1,.int a.2,Bq b.1,.int b.2]) (r:= .lit (.tuple #[.slice none 0 0,.int .i64 (max a.2 b.2)])) ?_ rfl (λ_ _ _ _ h=>h) λE v hv=>hv.nil_P
 by_cases h1:a.2=0
 exact mQ a.1 b.1 a.2 b.2 he hf h1 (λg=>h ⟨h1,g⟩)
 exact mP a.1 b.1 a.2 b.2 he hf h1
theorem fR (p:Pr) (c:Cs) (hp:Lf p) (hc:Ej p c):AF Tryz.prog 28 [Hc p,.int c.act] (.int (Aj p c)):=by
 have h1:=hc.2.1
 have h2:=hc.2.2.1
 have h3:=hc.2.2.2.1
 have h4:=hc.2.2.2.2
 have:=mU p hp (Hv hc.1) c.act.toNat ω
 rw[show (c.act.toNat:Int)=c.act by omega] at this
 exact this
theorem Sw (a b:V3) (f t k:Int):Cc (Es a b f t k).2:=by
 unfold Es
 split
 exact Gn
 exact⟨δ,δ⟩
theorem AiJ (a b:List Sg):Cc (Dz a b).2:=by
 unfold Dz
 split
 exact⟨δ,δ⟩
 split
 exact⟨δ,δ⟩
 split
 exact⟨δ,δ⟩
 exact Gn
theorem Adb {a b:List Sg×Int} (ha:Cc a.2) (hb:Cc b.2):Cc (Kk a b).2:=by
 unfold Kk
 split
 split
 exact Gn
 exact AiJ _ _
 exact⟨by have:=ha.1;have:=hb.1;show _<=max a.2 b.2;omega,by have:=ha.2;have:=hb.2;show max a.2 b.2<=_;omega⟩
theorem Wi {a b:List Sg×Int} (ha:Bj a.1) (hb:Bj b.1):Bj (Kk a b).1:=by
 unfold Kk
 split
 split
 exact hb
 exact Bj.app ha hb
 exact Bj.nil
theorem rK (b:List Sg×Int) (hb:Bj b.1) (hf:Cc b.2):AF Tryz.prog 32 [.lit (.slice none 0 0),.int 0,Bq b.1,.int b.2] (uL (Kk ([],0) b)):=
 nI (Tv ([],0) b Bj.nil hb Gn hf) rfl (λi hi E v hv=>by
  match i,hi with
  |0,_=>exact hv.nil_path
  |1,_=>exact hv
  |2,_=>exact hv
  |3,_=>exact hv) λ_ _ h=>h
noncomputable def fA (st:List Sg×Int) (off low:V3) (t dn u:Int):List Sg×Int:=
 if t+dn<u then Kk (Kk st (Es off low t (t+dn) 2)) (Es low low (t+dn) u 0) else Kk st (Es off low t (t+dn) 2)
noncomputable def dI (a s:V3) (g ac dn t u:Int):List Sg×Int:=
 if s.x=0/\s.y=0/\s.z=0 then fA ([],0) (Hg a s) (Gv a s g) t dn u else fA (Es a (Hg a s) t (t+ac) 2) (Hg a s) (Gv a s g) (t+ac) dn u
theorem Wc (p:Pr) (d:De) (c:Cs) (side:Int) (hp:Lf p) (hd:Ru d) (_:Sh c) (hsd:Cc side) (hc:Ej p c) (ho:Ev d) (h:Jd p d c side):AF Tryz.prog 13 [Hc p,Jt d,Nt c,.int side] (.tup [Bq (dI (Al p c) (Br d side) d.ground d.across d.down (Aj p c) (Hs p d)).1,.bool true,.int (dI (Al p c) (Br d side) d.ground d.across d.down (Aj p c) (Hs p d)).2]):=by
 have hv:=Hv hc.1
 have hc1:=hc.2.1
 have hc2:=hc.2.2.1
 have hc3:=hc.2.2.2.1
 have hc4:=hc.2.2.2.2
 have hto:=in3 (hv.to (j:=c.act.toNat) (i:=c.craft.toNat) ω ω)
 have hat:(-1048576<=(Al p c).x/\(Al p c).x<=1048576)/\(-1048576<=(Al p c).y/\(Al p c).y<=1048576)/\(-1048576<=(Al p c).z/\(Al p c).z<=1048576):=hto
 have hce:0<=Aj p c/\Aj p c<=3600000:=hv.ends (c.act.toNat+1) ω
 have hmv:=hv.mv c.act.toNat ω
 have hd1:=ho.1
 have hs1:=h.2.1
 have hs2:=h.2.2.1
 have hht:=h.1
 have hsv:=in3 (ho.2 side.toNat ω).1
 have hsz:=(ho.2 side.toNat ω).2.1
 refine Be func13 rfl λB D0 hA0=>?_
 refine Ab 11 (Dg [(3,_,.none),(8,Dx (Lv p.acts) (c.act).toNat,.none),(13,Dx (AaG ((p.acts.getD ((c.act).toNat) Ac.none).moves)) (c.craft).toNat,.none),(18,_,.none)] [3,5,11,12,13] ⟨Bu (fR p c hp hc),Qw c.act (c.act).toNat p.acts.length,Qw c.craft (c.craft).toNat ((p.acts.getD ((c.act).toNat) Ac.none).moves.length),Bu (Un p d hp hd ⟨hc.1,ho⟩ ω),trivial⟩ (Ab 7 (Dy 43 (decide (side<0)) false (decide_eq_false ω) (Ab 7 (Dy 50 (decide ((d.sides.length:Int)<=side)) false (decide_eq_false ω) (Ab 5 (Dy 53 (decide ((3600000:Int)<Hs p d)) false (decide_eq_false ω) (Ab 4 (Dg [(5,Dx (Km d.sides) (side).toNat,.none),(8,.int (((p.acts.getD ((c.act).toNat) Ac.none).moves.getD ((c.craft).toNat) Mv.none).to.x+(d.sides.getD ((side).toNat) V3.zero).x),.none),(14,Dx (Km d.sides) (side).toNat,.none),(17,.int (((p.acts.getD ((c.act).toNat) Ac.none).moves.getD ((c.craft).toNat) Mv.none).to.y+(d.sides.getD ((side).toNat) V3.zero).y),.none)] [3,5,11,12,13,14] ⟨Qw side (side).toNat d.sides.length,As (Bb (v:= .int .i64 (IntKind.wrap .i64 (((p.acts.getD ((c.act).toNat) Ac.none).moves.getD ((c.craft).toNat) Mv.none).to.x+(d.sides.getD ((side).toNat) V3.zero).x))) (v':= .int .i64 (((p.acts.getD ((c.act).toNat) Ac.none).moves.getD ((c.craft).toNat) Mv.none).to.x+(d.sides.getD ((side).toNat) V3.zero).x)) _ κ rfl κ (λw=>by kernel_rfl) (congrArg (Value.int .i64) ((IntWalk.i64_in _ ω).trans ω))),Qw side (side).toNat d.sides.length,As (Bb (v:= .int .i64 (IntKind.wrap .i64 (((p.acts.getD ((c.act).toNat) Ac.none).moves.getD ((c.craft).toNat) Mv.none).to.y+(d.sides.getD ((side).toNat) V3.zero).y))) (v':= .int .i64 (((p.acts.getD ((c.act).toNat) Ac.none).moves.getD ((c.craft).toNat) Mv.none).to.y+(d.sides.getD ((side).toNat) V3.zero).y)) _ κ rfl κ (λw=>by kernel_rfl) (congrArg (Value.int .i64) ((IntWalk.i64_in _ ω).trans ω))),trivial⟩ (Ab 20 (Aw (Gb (Hg (Al p c) (Br d side))) (Ab 2 (Dy 82 (!Dh 1048576 [(Hg (Al p c) (Br d side)).x,(Hg (Al p c) (Br d side)).y,(Hg (Al p c) (Br d side)).z]) false (by rw[h.2.2.2.1];rfl) (Ab 1 (Aw (Gb (Gv (Al p c) (Br d side) d.ground)) (Ab 4 (Dy 86 (!Dh 1048576 [(Gv (Al p c) (Br d side) d.ground).x,(Gv (Al p c) (Br d side) d.ground).y,(Gv (Al p c) (Br d side) d.ground).z]) false (by rw[h.2.2.2.2];rfl) (Ab 19 (AlF side (side).toNat d.sides.length (Ab 2 (Bi (.bool (!(decide ((d.sides.getD ((side).toNat) V3.zero).x=0/\(d.sides.getD ((side).toNat) V3.zero).y=0/\(d.sides.getD ((side).toNat) V3.zero).z=0)))) .none (Xe 62 62 (.tmp 91) (.tmp 92) κ _ _ κ κ κ (decide ((d.sides.getD ((side).toNat) V3.zero).x=0/\(d.sides.getD ((side).toNat) V3.zero).y=0/\(d.sides.getD ((side).toNat) V3.zero).z=0)) (Ss _ _ _ _ _ _)) (Ab 2 (Xy 93 ((d.sides.getD ((side).toNat) V3.zero).x=0/\(d.sides.getD ((side).toNat) V3.zero).y=0/\(d.sides.getD ((side).toNat) V3.zero).z=0) (λhx1 hx1d=>?_) (λhx1 hx1d=>?_))))))))))))))))))))))))
 ·
  refine Ab 11 (Dm (Aj p c+d.down) (Aj p c+d.down) (Aw (Jr (Hg (Al p c) (Br d side)) (Gv (Al p c) (Br d side) d.ground) (Aj p c) (Aj p c+d.down)) (Ab 13 (Aw (rK (Es (Hg (Al p c) (Br d side)) (Gv (Al p c) (Br d side) d.ground) (Aj p c) (Aj p c+d.down) 2) (Dp _ _ _ _ _) (Sw _ _ _ _ _)) (Ab 12 (Dm (Aj p c+d.down) (Aj p c+d.down) (Ab 11 (He 134 (Aj p c+d.down<Hs p d) (λhx2 hx2d=>?_) (λhx2 hx2d=>?_)))))))))
  ·
   exact Ab 6 (Aw (It (Gv (Al p c) (Br d side) d.ground) (Aj p c+d.down) (Hs p d)) (Ab 12 (Aw (Tv (Kk ([],0) (Es (Hg (Al p c) (Br d side)) (Gv (Al p c) (Br d side) d.ground) (Aj p c) (Aj p c+d.down) 2)) (Es (Gv (Al p c) (Br d side) d.ground) (Gv (Al p c) (Br d side) d.ground) (Aj p c+d.down) (Hs p d) 0) (Wi Bj.nil (Dp _ _ _ _ _)) (Dp _ _ _ _ _) (Adb Gn (Sw _ _ _ _ _)) (Sw _ _ _ _ _)) (Ab 17 (El (.tup [Bq ((Kk (Kk ([],0) (Es (Hg (Al p c) (Br d side)) (Gv (Al p c) (Br d side) d.ground) (Aj p c) (Aj p c+d.down) 2)) (Es (Gv (Al p c) (Br d side) d.ground) (Gv (Al p c) (Br d side) d.ground) (Aj p c+d.down) (Hs p d) 0)).1),.bool true,.int ((Kk (Kk ([],0) (Es (Hg (Al p c) (Br d side)) (Gv (Al p c) (Br d side) d.ground) (Aj p c) (Aj p c+d.down) 2)) (Es (Gv (Al p c) (Br d side) d.ground) (Gv (Al p c) (Br d side) d.ground) (Aj p c+d.down) (Hs p d) 0)).2)]) (show (.tup [_,_,_]:AV)=_ by unfold dI fA;rw[if_pos hx1d,if_pos hx2d]))))))
  ·
   exact Ab 13 (El (.tup [Bq ((Kk ([],0) (Es (Hg (Al p c) (Br d side)) (Gv (Al p c) (Br d side) d.ground) (Aj p c) (Aj p c+d.down) 2)).1),.bool true,.int ((Kk ([],0) (Es (Hg (Al p c) (Br d side)) (Gv (Al p c) (Br d side) d.ground) (Aj p c) (Aj p c+d.down) 2)).2)]) (show (.tup [_,_,_]:AV)=_ by unfold dI fA;rw[if_pos hx1d,if_neg hx2d]))
 ·
  refine Ab 9 (Dm (Aj p c+d.across) (Aj p c+d.across) (Aw (Jr (Al p c) (Hg (Al p c) (Br d side)) (Aj p c) (Aj p c+d.across)) (Ab 11 (Dm (Aj p c+d.across) (Aj p c+d.across) (Ab 11 (Dm (Aj p c+d.across+d.down) (Aj p c+d.across+d.down) (Aw (Jr (Hg (Al p c) (Br d side)) (Gv (Al p c) (Br d side) d.ground) (Aj p c+d.across) (Aj p c+d.across+d.down)) (Ab 13 (Aw (Tv (Es (Al p c) (Hg (Al p c) (Br d side)) (Aj p c) (Aj p c+d.across) 2) (Es (Hg (Al p c) (Br d side)) (Gv (Al p c) (Br d side) d.ground) (Aj p c+d.across) (Aj p c+d.across+d.down) 2) (Dp _ _ _ _ _) (Dp _ _ _ _ _) (Sw _ _ _ _ _) (Sw _ _ _ _ _)) (Ab 12 (Dm (Aj p c+d.across+d.down) (Aj p c+d.across+d.down) (Ab 11 (He 134 (Aj p c+d.across+d.down<Hs p d) (λhx3 hx3d=>?_) (λhx3 hx3d=>?_))))))))))))))
  ·
   exact Ab 6 (Aw (It (Gv (Al p c) (Br d side) d.ground) (Aj p c+d.across+d.down) (Hs p d)) (Ab 12 (Aw (Tv (Kk (Es (Al p c) (Hg (Al p c) (Br d side)) (Aj p c) (Aj p c+d.across) 2) (Es (Hg (Al p c) (Br d side)) (Gv (Al p c) (Br d side) d.ground) (Aj p c+d.across) (Aj p c+d.across+d.down) 2)) (Es (Gv (Al p c) (Br d side) d.ground) (Gv (Al p c) (Br d side) d.ground) (Aj p c+d.across+d.down) (Hs p d) 0) (Wi (Dp _ _ _ _ _) (Dp _ _ _ _ _)) (Dp _ _ _ _ _) (Adb (Sw _ _ _ _ _) (Sw _ _ _ _ _)) (Sw _ _ _ _ _)) (Ab 17 (El (.tup [Bq ((Kk (Kk (Es (Al p c) (Hg (Al p c) (Br d side)) (Aj p c) (Aj p c+d.across) 2) (Es (Hg (Al p c) (Br d side)) (Gv (Al p c) (Br d side) d.ground) (Aj p c+d.across) (Aj p c+d.across+d.down) 2)) (Es (Gv (Al p c) (Br d side) d.ground) (Gv (Al p c) (Br d side) d.ground) (Aj p c+d.across+d.down) (Hs p d) 0)).1),.bool true,.int ((Kk (Kk (Es (Al p c) (Hg (Al p c) (Br d side)) (Aj p c) (Aj p c+d.across) 2) (Es (Hg (Al p c) (Br d side)) (Gv (Al p c) (Br d side) d.ground) (Aj p c+d.across) (Aj p c+d.across+d.down) 2)) (Es (Gv (Al p c) (Br d side) d.ground) (Gv (Al p c) (Br d side) d.ground) (Aj p c+d.across+d.down) (Hs p d) 0)).2)]) (show (.tup [_,_,_]:AV)=_ by unfold dI fA;rw[if_neg hx1d,if_pos hx3d]))))))
  ·
   exact Ab 13 (El (.tup [Bq ((Kk (Es (Al p c) (Hg (Al p c) (Br d side)) (Aj p c) (Aj p c+d.across) 2) (Es (Hg (Al p c) (Br d side)) (Gv (Al p c) (Br d side) d.ground) (Aj p c+d.across) (Aj p c+d.across+d.down) 2)).1),.bool true,.int ((Kk (Es (Al p c) (Hg (Al p c) (Br d side)) (Aj p c) (Aj p c+d.across) 2) (Es (Hg (Al p c) (Br d side)) (Gv (Al p c) (Br d side) d.ground) (Aj p c+d.across) (Aj p c+d.across+d.down) 2)).2)]) (show (.tup [_,_,_]:AV)=_ by unfold dI fA;rw[if_neg hx1d,if_neg hx3d]))
theorem Wb (p:Pr) (d:De) (c:Cs) (side:Int) (hp:Lf p) (hd:Ru d) (_:Sh c) (hsd:Cc side) (hc:Ej p c) (ho:Ev d) (h:¬Jd p d c side):AF Tryz.prog 13 [Hc p,Jt d,Nt c,.int side] (.lit (.tuple #[.slice none 0 0,.bool false,.int .i64 0])):=by
 have hv:=Hv hc.1
 have hc1:=hc.2.1
 have hc2:=hc.2.2.1
 have hc3:=hc.2.2.2.1
 have hc4:=hc.2.2.2.2
 have hto:=in3 (hv.to (j:=c.act.toNat) (i:=c.craft.toNat) ω ω)
 have hat:(-1048576<=(Al p c).x/\(Al p c).x<=1048576)/\(-1048576<=(Al p c).y/\(Al p c).y<=1048576)/\(-1048576<=(Al p c).z/\(Al p c).z<=1048576):=hto
 have hce:0<=Aj p c/\Aj p c<=3600000:=hv.ends (c.act.toNat+1) ω
 have hmv:=hv.mv c.act.toNat ω
 have hd1:=ho.1
 refine Be func13 rfl λB D0 hA0=>?_
 refine Ab 11 (Dg [(3,_,.none),(8,Dx (Lv p.acts) (c.act).toNat,.none),(13,Dx (AaG ((p.acts.getD ((c.act).toNat) Ac.none).moves)) (c.craft).toNat,.none),(18,_,.none)] [3,5,11,12,13] ⟨Bu (fR p c hp hc),Qw c.act (c.act).toNat p.acts.length,Qw c.craft (c.craft).toNat ((p.acts.getD ((c.act).toNat) Ac.none).moves.length),Bu (Un p d hp hd ⟨hc.1,ho⟩ ω),trivial⟩ (Ab 7 (He 43 (side<0) (λhx1 hx1d=>?_) (λhx1 hx1d=>?_))))
 ·
  exact Ab 22 (Cu)
 ·
  refine Ab 7 (He 50 ((d.sides.length:Int)<=side) (λhx2 hx2d=>?_) (λhx2 hx2d=>?_))
  ·
   exact Ab 15 (Cu)
  ·
   refine Ab 5 (He 53 ((3600000:Int)<Hs p d) (λhx3 hx3d=>?_) (λhx3 hx3d=>?_))
   ·
    exact Ab 10 (Cu)
   ·
    refine Ab 3 ?_
    have hsv:=in3 (ho.2 side.toNat ω).1
    have hsz:=(ho.2 side.toNat ω).2.1
    refine Ab 1 (Dg [(5,Dx (Km d.sides) (side).toNat,.none),(8,.int (((p.acts.getD ((c.act).toNat) Ac.none).moves.getD ((c.craft).toNat) Mv.none).to.x+(d.sides.getD ((side).toNat) V3.zero).x),.none),(14,Dx (Km d.sides) (side).toNat,.none),(17,.int (((p.acts.getD ((c.act).toNat) Ac.none).moves.getD ((c.craft).toNat) Mv.none).to.y+(d.sides.getD ((side).toNat) V3.zero).y),.none)] [3,5,11,12,13,14] ⟨Qw side (side).toNat d.sides.length,As (Bb (v:= .int .i64 (IntKind.wrap .i64 (((p.acts.getD ((c.act).toNat) Ac.none).moves.getD ((c.craft).toNat) Mv.none).to.x+(d.sides.getD ((side).toNat) V3.zero).x))) (v':= .int .i64 (((p.acts.getD ((c.act).toNat) Ac.none).moves.getD ((c.craft).toNat) Mv.none).to.x+(d.sides.getD ((side).toNat) V3.zero).x)) _ κ rfl κ (λw=>by kernel_rfl) (congrArg (Value.int .i64) ((IntWalk.i64_in _ ω).trans ω))),Qw side (side).toNat d.sides.length,As (Bb (v:= .int .i64 (IntKind.wrap .i64 (((p.acts.getD ((c.act).toNat) Ac.none).moves.getD ((c.craft).toNat) Mv.none).to.y+(d.sides.getD ((side).toNat) V3.zero).y))) (v':= .int .i64 (((p.acts.getD ((c.act).toNat) Ac.none).moves.getD ((c.craft).toNat) Mv.none).to.y+(d.sides.getD ((side).toNat) V3.zero).y)) _ κ rfl κ (λw=>by kernel_rfl) (congrArg (Value.int .i64) ((IntWalk.i64_in _ ω).trans ω))),trivial⟩ (Ab 20 (Aw (Gb (Hg (Al p c) (Br d side))) (Ab 2 (Rx 82 (Dh 1048576 [(Hg (Al p c) (Br d side)).x,(Hg (Al p c) (Br d side)).y,(Hg (Al p c) (Br d side)).z]) (λhx4=>?_) (λhx4=>?_))))))
    ·
     refine Ab 1 (Aw (Gb (Gv (Al p c) (Br d side) d.ground)) (Ab 4 (Rx 86 (Dh 1048576 [(Gv (Al p c) (Br d side) d.ground).x,(Gv (Al p c) (Br d side) d.ground).y,(Gv (Al p c) (Br d side) d.ground).z]) (λhx5=>?_) (λhx5=>?_))))
     ·
      refine Ab 3 ?_
      exact absurd ⟨ω,ω,ω,hx4,hx5⟩ h
     ·
      exact Ab 10 (Cu)
    ·
     exact Ab 16 (Cu)
structure sF (s:Option (List Sg)×Int) (b:List Sg×Int):Prop where
 e:s.2=b.2
 p:b.2=0->s.1.getD []=b.1
 n:b.2=0->(s.1=none↔b.1.length=0)
 z:b.2≠0->b.1=[]
 g:b.2=0\/2<=b.2
theorem Sy (a b:V3) (f t k:Int):((Es a b f t k).2=0/\0<(Es a b f t k).1.length)\/((Es a b f t k).2=2/\(Es a b f t k).1=[]):=by
 unfold Es
 split
 exact .inl ⟨rfl,Nat.one_pos⟩
 exact .inr ⟨rfl,rfl⟩
theorem AiK (a b:List Sg):(Dz a b).2=0\/2<=(Dz a b).2:=by
 unfold Dz
 split
 exact .inr δ
 split
 exact .inr δ
 split
 exact .inr δ
 exact .inl rfl
theorem AcQ {a b:List Sg} (h:(Dz a b).2=0):(Dz a b).1.length=a.length+b.length:=by
 unfold Dz at*
 split
 rename_i h1;rw[if_pos h1] at h;cases h
 rename_i h1
 rw[if_neg h1] at h
 split
 rename_i h2;rw[if_pos h2] at h;cases h
 rename_i h2
 rw[if_neg h2] at h
 split
 rename_i h3;rw[if_pos h3] at h;cases h
 simp
theorem Ul {s:Option (List Sg)×Int} {b g:List Sg×Int} (h:sF s b) (hg:(g.2=0/\0<g.1.length)\/(g.2=2/\g.1=[])):sF (Jc s g) (Kk b g):=by
 unfold Jc Kk
 by_cases hb:b.2=0
 have hs:s.2=0:=h.e.trans hb
 rw[if_pos hs]
 rcases hg with⟨h1,h2⟩|⟨h1,h2⟩
 rw[if_pos h1,if_pos ⟨hb,h1⟩]
 cases hq:s.1 with
 |none=>
  have:=(h.n hb).1 hq
  rw[if_pos this]
  exact⟨rfl,λ_=>rfl,λ_=>⟨λh=>by simp at h,λh=>by simp only at h;omega⟩,λh=>absurd rfl h,.inl rfl⟩
 |some q=>
  have hl:¬b.1.length=0:=λh0=>by have:=(h.n hb).2 h0;rw[hq] at this;cases this
  rw[if_neg hl]
  have hbq:q=b.1:=by have:=h.p hb;rw[hq] at this;exact this
  subst hbq
  by_cases ha:(Dz b.1 g.1).2=0
  simp only[ha,if_true]
  exact⟨ha.symm,λ_=>rfl,λ_=>⟨λh=>by simp at h,λh0=>by rw[AcQ ha] at h0;omega⟩,λh=>absurd ha h,.inl ha⟩
  simp only[ha,if_false]
  exact⟨rfl,λh=>absurd h ha,λh=>absurd h ha,λh=>nS h,AiK _ _⟩
 rw[if_neg (by omega:¬g.2=0),if_neg (λk=>by omega)]
 have:max b.2 g.2=2:=by omega
 rw[this]
 exact⟨h1,λh=>absurd h δ,λh=>absurd h δ,λ_=>rfl,.inr (Int.le_refl _)⟩
 have hs:¬s.2=0:=λk=>hb (h.e.symm.trans k)
 rw[if_neg hs,if_neg (λk=>hb k.1)]
 have:=h.g
 have:max b.2 g.2=b.2:=by rcases hg with⟨h1,_⟩|⟨h1,_⟩<;>omega
 rw[this]
 exact⟨h.e,λk=>absurd k hb,λk=>absurd k hb,λ_=>rfl,h.g⟩
theorem rC:sF (none,0) ([],0):=⟨rfl,λ_=>rfl,λ_=>⟨λ_=>rfl,λ_=>rfl⟩,λh=>absurd rfl h,.inl rfl⟩
theorem Adc {g:List Sg×Int} (hg:(g.2=0/\0<g.1.length)\/(g.2=2/\g.1=[])):Kk ([],0) g=g:=by
 unfold Kk
 rcases hg with⟨h1,h2⟩|⟨h1,h2⟩
 rw[if_pos ⟨rfl,h1⟩,if_pos (show ([]:List Sg).length=0 from rfl)];exact Prod.ext rfl h1.symm
 rw[if_neg (λk=>by have:=k.2;omega)];exact Prod.ext h2.symm (by show max 0 g.2=g.2;omega)
theorem AfE {s:Option (List Sg)×Int} {b:List Sg×Int} (h:sF s b) (off low:V3) (t dn u:Int):sF (Pz s off low t dn u) (fA b off low t dn u):=by
 unfold Pz fA
 split
 exact Ul (Ul h (Sy _ _ _ _ _)) (Sy _ _ _ _ _)
 exact Ul h (Sy _ _ _ _ _)
theorem Ake (a s:V3) (g ac dn t u:Int) (hz:s.z=0):sF (Rk a s g ac dn t u) (dI a s g ac dn t u):=by
 unfold Rk dI
 by_cases h:s.x=0/\s.y=0/\s.z=0
 rw[if_pos h,if_pos ω]
 exact AfE rC _ _ _ _ _
 rw[if_neg h,if_neg ω]
 have:=Ul rC (Sy a (Hg a s) t (t+ac) 2)
 rw[Adc (Sy a (Hg a s) t (t+ac) 2)] at this
 exact AfE this _ _ _ _ _
theorem VR.resW_P {E:Bc} {v:Value} {s:Option (List Sg)×Int} {b:List Sg×Int} (hw:sF s b) (h:VR E (Ra s) v):VR E (uL b) v:=by
 unfold Ra at h
 rw[hw.e] at h
 split at h
 rename_i h0
 rw[hw.p h0] at h
 rw[uL,h0];exact h
 rename_i h0
 have:=h.nil_P
 have e:b=([],b.2):=Prod.ext (hw.z h0) rfl
 rw[e];exact this
noncomputable abbrev Jn (p:Pr) (d:De) (c:Cs) (side:Int):List Sg×Int:=dI (Al p c) (Br d side) d.ground d.across d.down (Aj p c) (Hs p d)
theorem Ac2 (p:Pr) (d:De) (c:Cs) (side:Int) (hp:Lf p) (hd:Ru d) (hcs:Sh c) (hsd:Cc side) (hc:Ej p c) (ho:Ev d) (h:Jd p d c side):AF Tryz.prog 17 [Hc p,Jt d,Nt c,.int side] (uL (Jn p d c side)):=
 nI (zL p d c side hp hd hcs hsd hc ho h) rfl (λ_ _ _ _ h=>h) λE v hv=>hv.resW_P (Ake _ _ _ _ _ _ _ (ho.2 side.toNat (by have:=h.2.1;have:=h.2.2.1;omega)).2.1)
abbrev Ajb (p:Nat->Int) (m:Nat) (a b d:Int):Nat->Int:=cN p m a b d (m-1)
theorem mR (p:Nat->Int) (a b d:Int) (ha:Cc a) (hb:Cc b) (hd:Cc d) (hdp:0<d):AF Tryz.prog 128 [Kj 0 p,WA a,WA b,WA d] (.lit (.tuple #[.slice none 0 0,.int .i64 0])):=by
 refine Be func128 rfl λB D0 hA0=>?_
 exact Ab 13 (Aw (Wg 0 p ω (λi hi=>absurd hi (Nat.not_lt_zero i)) (.inl rfl)) (Ab 3 (Aw (Fh _ (Ju ha)) (Ab 4 (Aw (Fh _ (Ju hb)) (Ab 4 (Aw (Fh _ (Ju hd)) (Ab 11 (Aw (Mz d (Ju hd)) (Ab 3 (Dy 37 (decide (d.sign<=0)) false (decide_eq_false (by rw[Int.sign_eq_one_of_pos hdp];decide)) (Ab 20 (Cu)))))))))))))
theorem VR.nil_poly {E:Bc} {v:Value} {c:Nat->Int} {e:Int} (h:VR E (.lit (.tuple #[.slice none 0 0,.int .i64 e])) v):VR E (.tup [Kj 0 c,.int e]) v:=by
 have:=h.lit_inv
 subst this
 refine .tup _ _ _ rfl λi hi=>?_
 match i,hi with
 |0,_=>exact .sl0 _ _ _ _ _
 |1,_=>exact .lit _ _
theorem rM (m:Nat) (p:Nat->Int) (a b d:Int) (hm:m<=6) (hp:∀i,Cc (p i)) (hl:m=0\/p (m-1)≠0) (ha:Cc a) (hb:Cc b) (hd:Cc d) (hdp:0<d):AF Tryz.prog 128 [Kj m p,WA a,WA b,WA d] (.tup [Kj (Hu (Ajb p m a b d) m) (Ajb p m a b d),.int 0]):=by
 cases m with
 |zero=>exact nI (mR p a b d ha hb hd hdp) rfl (λ_ _ _ _ h=>h) λE v hv=>hv.nil_poly
 |succ k=>exact mS k p a b d ω hp (hl.resolve_left ω) ha hb hd hdp
abbrev ocN (l:List Int):Nat:=Hu (mF l) l.length
abbrev oc1 (l:List Int) (a b d:Int):Nat->Int:=Ajb (mF l) (ocN l) a b d
theorem wM {y:Int} (h:((Dd y.natAbs).toList==(⟨#[]⟩:ByteArray).toList)=false):0<y.natAbs:=Nat.pos_of_ne_zero λe=>by
 rw[e,Pk] at h
 simp at h
theorem vN (x:Int) (k:Int) (hx:Da x):∃r,Gm [.agg [.b,.s],.one .i] r/\AF Tryz.prog 131 [.lit (Ar x),.lit (.int .i64 k)] r:=by
 have hd:=hx.digits
 have h1:=xO x.natAbs k.toNat
 have h2:=xO 1 (0-k).toNat
 have h3:=Tf
 have h4:=Nat.two_pow_pos (0-k).toNat
 have h5:=Td (decide (x<0)) x.natAbs (1*2^(0-k).toNat)
 refine Cd func131 rfl ?_
 refine Ae 11 (gs (Aw (Fh x (by assumption)) ·) (Ae 12 (Jf 15 (k< -65536) (λhx1 hx1d=>?_) (λhx1 hx1d=>?_))))
 exact Ae 15 (Bl)
 refine Ae 5 (Jf 18 ((65536:Int)<k) (λhx2 hx2d=>?_) (λhx2 hx2d=>?_))
 exact Ae 10 (Bl)
 refine Ae 6 (gs (Aw (Ei x (by assumption)) ·) (Ae 11 (Jf 23 ((0:Int)<=k) (λhx3 hx3d=>?_) (λhx3 hx3d=>?_))))
 exact Ae 2 (Eh (Mx (decide (x<0)) (x.natAbs*2^(k).toNat) ω) λv4 hv4=>(gs (Dg [(5,_,.none),(7,_,.none)] [4,5] ⟨Bu (nC x.natAbs (k).toNat k ω ω ω),Bu hv4,trivial⟩ ·) (Ae 3 (Bl))))
 exact Ae 4 (gs (Dg [(1,.osl 3 1 1,(.new 3 (.vec 135 1 1 (λ_=> .lit (.int .u64 1))))),(3,.int (0-k),.none),(4,Ed (1*2^(0-k).toNat),(.drop 3)),(6,_,.none)] [4,7] ⟨As (Au 131 1 #[(0,(.const (.int .u64 1)))] κ underlying131 1 sizeOf135 _ zeroValue135 κ β β β 3 [.lit (.int .u64 1)] κ (λ_=> .lit (.int .u64 1)) κ),As (Bb (v:= .int .i64 (IntKind.wrap .i64 (0-k))) (v':= .int .i64 (0-k)) _ κ rfl κ (λw=>by kernel_rfl) (congrArg (Value.int .i64) (IntWalk.i64_in _ ω))),As (Im 156 #[.tmp 36,.tmp 38] #[131,3] κ (λ_ _=>by kernel_rfl) 3 (.vec 135 1 1 (λ_=> .lit (.int .u64 1))) κ (λ_ _ _ _ h=>by cases h;exact(Fe λ_ _=>rfl)) [.osl 3 1 1,.int (0-k)] κ [.slc 1 1 (λ_=> .lit (.int .u64 1)),.int (0-k)] κ (Ed (1*2^(0-k).toNat)) (nD (0-k).toNat (0-k) ω ω)),Bu (Mu (decide (x<0)) x.natAbs false (1*2^(0-k).toNat) ω ω ω),trivial⟩ ·) (Ae 4 (Eh (Mx (!decide ((decide (x<0))=false)) (Ii (decide (x<0)) x.natAbs (1*2^(0-k).toNat)) ω) λv5 hv5=>(gs (Aw hv5 ·) (Ae 7 (Bl))))))
theorem rD (a:Rw) (k:Int) (h:Jm a=false):∃r,Gm [.agg [.b,.s],.one .i] r/\AF Tryz.prog 131 [Gk a,.int k] r:=by
 refine Cd func131 rfl ?_
 exact Ae 11 (gs (Aw (Gz a) ·) (Ae 3 (eW 11 (!Jm a) true (by rw[h];rfl) (Ae 10 (Bl)))))
theorem vM (a:Rw) (k:Int):∃r,Gm [.agg [.b,.s],.one .i] r/\AF Tryz.prog 131 [Gk a,.int k] r:=by
 cases h:Jm a with
 |false=>exact rD a k h
 |true=>
  obtain⟨x,hx,ex⟩:=Lp h
  rw[ex]
  exact vN x k hx
noncomputable def AfF (a:Rw) (k:Int):Value:=Kp 131 [.agg [.b,.s],.one .i] [Gk a,.int k]
theorem rX (a:Rw) (k:Int):AF Tryz.prog 131 [Gk a,.int k] (.lit (Ht [.agg [.b,.s],.one .i] (AfF a k))):=Bv (vM a k)
theorem Aa9 (b:Bool) (n:Nat) (c:Bool) (k:Nat) (h0:0<k/\(Aq n).length<=5000/\(Aq k).length<=5000):∃r,Gm [.agg [.b,.s,.b,.s],.one .i] r/\AF Tryz.prog 176 [Ee b n,Ee c k] r:=by
 have hg:0<Nat.gcd n k:=Nat.gcd_pos_of_pos_right n h0.1
 have hg1:=kY (n:=n) h0.1
 have hq1:=Td b n (Nat.gcd n k)
 have hq2:=Td c k (Nat.gcd n k)
 refine Cd func176 rfl ?_
 refine Ae 9 (gs (Dg [(6,_,.none)] [2,3,4,6] ⟨Bu (jK n k ω ω),trivial⟩ ·) (Ae 5 (gs (Aw (Mu b n c (Nat.gcd n k) ω ω ω) ·) (Ae 10 (gs (Aw (Mu c k c (Nat.gcd n k) ω ω ω) ·) (Ae 9 (Eh (Mx (!decide (b=c)) (Ii b n (Nat.gcd n k)) ω) λv1 hv1=>(gs (Aw hv1 ·) (Ae 11 (Eh (Mx (!decide (c=c)) (Ii c k (Nat.gcd n k)) ω) λv2 hv2=>(gs (Aw hv2 ·) (Ae 14 (Ff 43 ?_ ?_)))))))))))))
 exact Ae 15 (Bl)
 refine Ae 5 (Ff 46 ?_ ?_)
 exact Ae 10 (Bl)
 exact Ae 13 (Bl)
noncomputable def AgX (b:Bool) (n:Nat) (c:Bool) (k:Nat):Value:=Kp 176 [.agg [.b,.s,.b,.s],.one .i] [Ee b n,Ee c k]
theorem Yg (b:Bool) (n:Nat) (c:Bool) (k:Nat) (h0:0<k/\(Aq n).length<=5000/\(Aq k).length<=5000):AF Tryz.prog 176 [Ee b n,Ee c k] (.lit (Ht [.agg [.b,.s,.b,.s],.one .i] (AgX b n c k))):=Bv (Aa9 b n c k h0)
theorem AbR (x y:Int) (hx:Da x) (hy:Da y):∃r,Gm [.agg [.b,.s,.b,.s],.one .i] r/\AF Tryz.prog 133 [.lit (Ar x),.lit (Ar y)] r:=by
 have hd:=hx.digits
 have he:=hy.digits
 refine Cd func133 rfl ?_
 refine Ae 13 (gs (Aw (Jg x y (by assumption) (by assumption)) ·) (Ae 11 (gs (Mm (.bool ((Dd y.natAbs).toList==(⟨#[]⟩:ByteArray).toList)) (.bool ((Dd y.natAbs).toList==(⟨#[]⟩:ByteArray).toList)) ·) (Ae 2 (tsb 13 ((Dd y.natAbs).toList==(⟨#[]⟩:ByteArray).toList) (λhx1=>?_) (λhx1=>?_))))))
 exact Ae 10 (Bl)
 refine Ae 3 ?_
 have hp:=wM hx1
 exact Ae 1 (Eh (Yg (decide (x<0)) x.natAbs (decide (y<0)) y.natAbs ω) λv2 hv2=>(gs (Dg [(1,_,.none),(3,_,.none),(4,_,.none)] [4,5] ⟨Bu (Ei x (by assumption)),Bu (Ei y (by assumption)),Bu hv2,trivial⟩ ·) (Ae 2 (Bl))))
theorem vL (a:Rw) (b:Rw) (h:(Jm a&&Jm b)=false):∃r,Gm [.agg [.b,.s,.b,.s],.one .i] r/\AF Tryz.prog 133 [Gk a,Gk b] r:=by
 refine Cd func133 rfl ?_
 exact Ae 13 (gs (Aw (Pd a b) ·) (Ae 3 (eW 9 (!(Jm a&&Jm b)) true (by rw[h];rfl) (Ae 10 (Bl)))))
theorem AbQ (a:Rw) (b:Rw):∃r,Gm [.agg [.b,.s,.b,.s],.one .i] r/\AF Tryz.prog 133 [Gk a,Gk b] r:=by
 cases h:(Jm a&&Jm b) with
 |false=>exact vL a b h
 |true=>
  obtain⟨h1,h2⟩:=Bool.and_eq_true_iff.1 h
  obtain⟨x,hx,ex⟩:=Lp h1
  obtain⟨y,hy,ey⟩:=Lp h2
  rw[ex,ey]
  exact AbR x y hx hy
noncomputable def Aie (a:Rw) (b:Rw):Value:=Kp 133 [.agg [.b,.s,.b,.s],.one .i] [Gk a,Gk b]
theorem Yh (a:Rw) (b:Rw):AF Tryz.prog 133 [Gk a,Gk b] (.lit (Ht [.agg [.b,.s,.b,.s],.one .i] (Aie a b))):=Bv (AbQ a b)
structure Rr where
 num:Rw
 den:Rw
abbrev Cz (r:Rr):AV:= .lit (.agg #[.bool r.num.neg,.string r.num.mag,.bool r.den.neg,.string r.den.mag])
abbrev Oy (x y:Int):AV:= .lit (.agg #[.bool (decide (x<0)),.string (Dd x.natAbs),.bool (decide (y<0)),.string (Dd y.natAbs)])
def Uo (r:Rr):Prop:=∃x y,Da x/\Da y/\0<y/\Cz r=Oy x y
noncomputable def Xc (r:Rr):Bool:=bP (Uo r)
theorem Afb {y:Int} (h:0<y):decide ((0:Int)<y.sign)=true:=decide_eq_true (by rw[Int.sign_eq_one_of_pos h];decide)
theorem Abt {y:Int} (h:¬0<y):decide ((0:Int)<y.sign)=false:=decide_eq_false λg=>by
 by_cases h0:y=0
 subst h0;exact absurd g δ
 rw[Int.sign_eq_neg_one_of_neg ω] at g;exact absurd g δ
theorem Qi (x y:Int) (hx:Da x) (hy:Da y) (hp:0<y):AF Tryz.prog 204 [Oy x y] (.bool true):=by
 have hz:=Afb hp
 refine Be func204 rfl λB D0 hA0=>?_
 exact Ab 12 (Aw (Jg x y (by assumption) (by assumption)) (Ab 3 (Aw (Mz y (by assumption)) (Ab 6 (El (.bool (decide ((0:Int)<(y).sign))) (congrArg AV.bool hz))))))
theorem rV (x y:Int) (hx:Da x) (hy:Da y) (hp:¬0<y):AF Tryz.prog 204 [Oy x y] (.bool false):=by
 have hz:=Abt hp
 refine Be func204 rfl λB D0 hA0=>?_
 exact Ab 12 (Aw (Jg x y (by assumption) (by assumption)) (Ab 3 (Aw (Mz y (by assumption)) (Ab 6 (El (.bool (decide ((0:Int)<(y).sign))) (congrArg AV.bool hz))))))
theorem rU (r:Rr) (h:(Jm r.num&&Jm r.den)=false):AF Tryz.prog 204 [Cz r] (.bool false):=by
 refine Be func204 rfl λB D0 hA0=>?_
 exact Ab 12 (Aw (Pd r.num r.den) (Ab 1 (Dy 8 (Jm r.num&&Jm r.den) false h (Ab 9 (Cu)))))
theorem AkQ {r:Rr} {x y:Int} (h1:Gk r.num=WA x) (h2:Gk r.den=WA y):Cz r=Oy x y:=by
 have e1:Value.agg #[.bool r.num.neg,.string r.num.mag]=Ar x:=AV.lit.inj h1
 have e2:Value.agg #[.bool r.den.neg,.string r.den.mag]=Ar y:=AV.lit.inj h2
 unfold Ar at e1 e2
 simp only[Value.agg.injEq,Array.mk.injEq,List.cons.injEq,Value.bool.injEq,Value.string.injEq,and_true] at e1 e2
 unfold Cz Oy
 rw[e1.1,e1.2,e2.1,e2.2]
theorem Va (r:Rr):AF Tryz.prog 204 [Cz r] (.bool (Xc r)):=by
 by_cases hr:Uo r
 have e:Xc r=true:=Cn hr
 rw[e]
 obtain⟨x,y,hx,hy,hp,e⟩:=hr
 rw[e]
 exact Qi x y hx hy hp
 have e:Xc r=false:=Bf hr
 rw[e]
 cases h:(Jm r.num&&Jm r.den) with
 |false=>exact rU r h
 |true=>
  obtain⟨h1,h2⟩:=Bool.and_eq_true_iff.1 h
  obtain⟨x,hx,ex⟩:=Lp h1
  obtain⟨y,hy,ey⟩:=Lp h2
  have e2:=AkQ ex ey
  rw[e2]
  exact rV x y hx hy λhp=>hr ⟨x,y,hx,hy,hp,e2⟩
theorem Vo {r:Rr} (h:Xc r=true):Uo r:=Fx h
theorem bJ (a b:Rr):AF Tryz.prog 184 [Cz a,Cz b] (.bool (Xc a&&Xc b)):=by
 refine Be func184 rfl λB D0 hA0=>?_
 refine Ab 10 (Aw (Va a) (Ab 1 (vsb 7 (Xc a) (λhx1=>?_) (λhx1=>?_))))
 ·
  exact Ab 1 (Aw (Va b) (Ab 5 (El (.bool (Xc b)) (congrArg AV.bool (by rw[hx1];rfl)))))
 ·
  exact Ab 7 (El (.bool false) (congrArg AV.bool (by rw[hx1];rfl)))
theorem Wf (x y u v:Int) (hx:Da x) (hy:Da y) (hu:Da u) (hv:Da v) (hyp:0<y) (hvp:0<v):AF Tryz.prog 184 [Oy x y,Oy u v] (.bool true):=by
 refine Be func184 rfl λB D0 hA0=>?_
 exact Ab 10 (Aw (Qi x y (by assumption) (by assumption) (by assumption)) (Ab 2 (Aw (Qi u v (by assumption) (by assumption) (by assumption)) (Ab 5 (Cu)))))
theorem Ry (x y u v:Int) (hx:Da x) (hy:Da y) (hu:Da u) (hv:Da v):AF Tryz.prog 185 [Oy x y,Oy u v] (.tup [Ee (!decide (decide (x<0)=decide (v<0))) (x.natAbs*v.natAbs),Ee (!decide (decide (u<0)=decide (y<0))) (u.natAbs*y.natAbs),Ee (!decide (decide (y<0)=decide (v<0))) (y.natAbs*v.natAbs)]):=by
 have d1:=hx.digits
 have d2:=hy.digits
 have d3:=hu.digits
 have d4:=hv.digits
 refine Be func185 rfl λB D0 hA0=>?_
 exact Ab 10 (Dg [(2,_,.none),(5,_,.none),(6,_,.none),(9,_,.none),(12,_,.none),(13,_,.none),(16,_,.none),(19,_,.none),(20,_,.none)] [4,5,6] ⟨Bu (Ei x (by assumption)),Bu (Ei v (by assumption)),Bu (Pf (decide (x<0)) x.natAbs (decide (v<0)) v.natAbs ω ω),Bu (Ei u (by assumption)),Bu (Ei y (by assumption)),Bu (Pf (decide (u<0)) u.natAbs (decide (y<0)) y.natAbs ω ω),Bu (Ei y (by assumption)),Bu (Ei v (by assumption)),Bu (Pf (decide (y<0)) y.natAbs (decide (v<0)) v.natAbs ω ω),trivial⟩ (Ab 2 (Cu)))
theorem Ahz (x y u v:Int) (hx:Da x) (hy:Da y) (hu:Da u) (hv:Da v) (hyp:0<y) (hvp:0<v):∃r,Gm [.one .i,.one .i] r/\AF Tryz.prog 140 [Oy x y,Oy u v] r:=by
 have d1:=hx.digits
 have d2:=hy.digits
 have d3:=hu.digits
 have d4:=hv.digits
 have p1:=Gj x.natAbs v.natAbs
 have p2:=Gj u.natAbs y.natAbs
 have p3:=Gj y.natAbs v.natAbs
 have p4:=Gj x.natAbs u.natAbs
 have p5:=Ji (!decide (decide (x<0)=decide (v<0))) (x.natAbs*v.natAbs) (!decide (decide (u<0)=decide (y<0))) (u.natAbs*y.natAbs)
 have p6:=Ji (!decide (decide (x<0)=decide (v<0))) (x.natAbs*v.natAbs) (!!decide (decide (u<0)=decide (y<0))) (u.natAbs*y.natAbs)
 have p7:0<y.natAbs*v.natAbs:=Nat.mul_pos ω ω
 refine Cd func140 rfl ?_
 exact Ae 13 (gs (Aw (Wf x y u v (by assumption) (by assumption) (by assumption) (by assumption) (by assumption) (by assumption)) ·) (Ae 10 (gs (Aw (Ry x y u v (by assumption) (by assumption) (by assumption) (by assumption)) ·) (Ae 13 (Eh (Acw (Pj (!decide (decide (x<0)=decide (v<0))) (x.natAbs*v.natAbs) (!(!decide (decide (u<0)=decide (y<0)))) (u.natAbs*y.natAbs)) (No (!decide (decide (x<0)=decide (v<0))) (x.natAbs*v.natAbs) (!(!decide (decide (u<0)=decide (y<0)))) (u.natAbs*y.natAbs))) λv1 hv1=>(gs (Dg [(2,_,.none),(3,_,.none),(4,_,.none)] [4,5] ⟨Bu (We (!decide (decide (u<0)=decide (y<0))) (u.natAbs*y.natAbs)),Bu (Pe (!decide (decide (x<0)=decide (v<0))) (x.natAbs*v.natAbs) (!(!decide (decide (u<0)=decide (y<0)))) (u.natAbs*y.natAbs) ω ω),Bu hv1,trivial⟩ ·) (Ae 2 (Bl))))))))
theorem AeP (a:Rr) (b:Rr) (h:(Xc a&&Xc b)=false):∃r,Gm [.one .i,.one .i] r/\AF Tryz.prog 140 [Cz a,Cz b] r:=by
 refine Cd func140 rfl ?_
 exact Ae 13 (gs (Aw (bJ a b) ·) (Ae 3 (eW 12 (!(Xc a&&Xc b)) true (by rw[h];rfl) (Ae 9 (Bl)))))
theorem Ahy (a:Rr) (b:Rr):∃r,Gm [.one .i,.one .i] r/\AF Tryz.prog 140 [Cz a,Cz b] r:=by
 cases h:(Xc a&&Xc b) with
 |false=>exact AeP a b h
 |true=>
  obtain⟨h1,h2⟩:=Bool.and_eq_true_iff.1 h
  obtain⟨x,y,hx,hy,hyp,ex⟩:=Vo h1
  obtain⟨u,v,hu,hv,hvp,ey⟩:=Vo h2
  rw[ex,ey]
  exact Ahz x y u v hx hy hu hv hyp hvp
noncomputable def AkL (a:Rr) (b:Rr):Value:=Kp 140 [.one .i,.one .i] [Cz a,Cz b]
theorem Age (a:Rr) (b:Rr):AF Tryz.prog 140 [Cz a,Cz b] (.lit (Ht [.one .i,.one .i] (AkL a b))):=Bv (Ahy a b)
theorem Ahw (x y u v:Int) (hx:Da x) (hy:Da y) (hu:Da u) (hv:Da v) (hyp:0<y) (hvp:0<v):∃r,Gm [.agg [.b,.s,.b,.s],.one .i] r/\AF Tryz.prog 146 [Oy x y,Oy u v] r:=by
 have d1:=hx.digits
 have d2:=hy.digits
 have d3:=hu.digits
 have d4:=hv.digits
 have p1:=Gj x.natAbs v.natAbs
 have p2:=Gj u.natAbs y.natAbs
 have p3:=Gj y.natAbs v.natAbs
 have p4:=Gj x.natAbs u.natAbs
 have p5:=Ji (!decide (decide (x<0)=decide (v<0))) (x.natAbs*v.natAbs) (!decide (decide (u<0)=decide (y<0))) (u.natAbs*y.natAbs)
 have p6:=Ji (!decide (decide (x<0)=decide (v<0))) (x.natAbs*v.natAbs) (!!decide (decide (u<0)=decide (y<0))) (u.natAbs*y.natAbs)
 have p7:0<y.natAbs*v.natAbs:=Nat.mul_pos ω ω
 refine Cd func146 rfl ?_
 exact Ae 13 (gs (Aw (Wf x y u v (by assumption) (by assumption) (by assumption) (by assumption) (by assumption) (by assumption)) ·) (Ae 10 (gs (Aw (Ry x y u v (by assumption) (by assumption) (by assumption) (by assumption)) ·) (Ae 13 (Eh (Yg (Pj (!decide (decide (x<0)=decide (v<0))) (x.natAbs*v.natAbs) (!decide (decide (u<0)=decide (y<0))) (u.natAbs*y.natAbs)) (No (!decide (decide (x<0)=decide (v<0))) (x.natAbs*v.natAbs) (!decide (decide (u<0)=decide (y<0))) (u.natAbs*y.natAbs)) (!decide (decide (y<0)=decide (v<0))) (y.natAbs*v.natAbs) ω) λv1 hv1=>(gs (Dg [(2,_,.none),(4,_,.none)] [4,5] ⟨Bu (Pe (!decide (decide (x<0)=decide (v<0))) (x.natAbs*v.natAbs) (!decide (decide (u<0)=decide (y<0))) (u.natAbs*y.natAbs) ω ω),Bu hv1,trivial⟩ ·) (Ae 2 (Bl))))))))
theorem AeO (a:Rr) (b:Rr) (h:(Xc a&&Xc b)=false):∃r,Gm [.agg [.b,.s,.b,.s],.one .i] r/\AF Tryz.prog 146 [Cz a,Cz b] r:=by
 refine Cd func146 rfl ?_
 exact Ae 13 (gs (Aw (bJ a b) ·) (Ae 3 (eW 12 (!(Xc a&&Xc b)) true (by rw[h];rfl) (Ae 10 (Bl)))))
theorem Ahv (a:Rr) (b:Rr):∃r,Gm [.agg [.b,.s,.b,.s],.one .i] r/\AF Tryz.prog 146 [Cz a,Cz b] r:=by
 cases h:(Xc a&&Xc b) with
 |false=>exact AeO a b h
 |true=>
  obtain⟨h1,h2⟩:=Bool.and_eq_true_iff.1 h
  obtain⟨x,y,hx,hy,hyp,ex⟩:=Vo h1
  obtain⟨u,v,hu,hv,hvp,ey⟩:=Vo h2
  rw[ex,ey]
  exact Ahw x y u v hx hy hu hv hyp hvp
noncomputable def AkK (a:Rr) (b:Rr):Value:=Kp 146 [.agg [.b,.s,.b,.s],.one .i] [Cz a,Cz b]
theorem jM (a:Rr) (b:Rr):AF Tryz.prog 146 [Cz a,Cz b] (.lit (Ht [.agg [.b,.s,.b,.s],.one .i] (AkK a b))):=Bv (Ahv a b)
theorem Ah4 (x y u v:Int) (hx:Da x) (hy:Da y) (hu:Da u) (hv:Da v) (hyp:0<y) (hvp:0<v):∃r,Gm [.agg [.b,.s,.b,.s],.one .i] r/\AF Tryz.prog 147 [Oy x y,Oy u v] r:=by
 have d1:=hx.digits
 have d2:=hy.digits
 have d3:=hu.digits
 have d4:=hv.digits
 have p1:=Gj x.natAbs v.natAbs
 have p2:=Gj u.natAbs y.natAbs
 have p3:=Gj y.natAbs v.natAbs
 have p4:=Gj x.natAbs u.natAbs
 have p5:=Ji (!decide (decide (x<0)=decide (v<0))) (x.natAbs*v.natAbs) (!decide (decide (u<0)=decide (y<0))) (u.natAbs*y.natAbs)
 have p6:=Ji (!decide (decide (x<0)=decide (v<0))) (x.natAbs*v.natAbs) (!!decide (decide (u<0)=decide (y<0))) (u.natAbs*y.natAbs)
 have p7:0<y.natAbs*v.natAbs:=Nat.mul_pos ω ω
 refine Cd func147 rfl ?_
 exact Ae 13 (gs (Aw (Wf x y u v (by assumption) (by assumption) (by assumption) (by assumption) (by assumption) (by assumption)) ·) (Ae 7 (Eh (Yg (!decide ((decide (x<0))=(decide (u<0)))) (x.natAbs*u.natAbs) (!decide ((decide (y<0))=(decide (v<0)))) (y.natAbs*v.natAbs) ω) λv1 hv1=>(gs (Dg [(2,_,.none),(5,_,.none),(6,_,.none),(9,_,.none),(12,_,.none),(13,_,.none),(14,_,.none)] [4,5] ⟨Bu (Ei x (by assumption)),Bu (Ei u (by assumption)),Bu (Pf (decide (x<0)) x.natAbs (decide (u<0)) u.natAbs ω ω),Bu (Ei y (by assumption)),Bu (Ei v (by assumption)),Bu (Pf (decide (y<0)) y.natAbs (decide (v<0)) v.natAbs ω ω),Bu hv1,trivial⟩ ·) (Ae 2 (Bl))))))
theorem AeS (a:Rr) (b:Rr) (h:(Xc a&&Xc b)=false):∃r,Gm [.agg [.b,.s,.b,.s],.one .i] r/\AF Tryz.prog 147 [Cz a,Cz b] r:=by
 refine Cd func147 rfl ?_
 exact Ae 13 (gs (Aw (bJ a b) ·) (Ae 3 (eW 9 (!(Xc a&&Xc b)) true (by rw[h];rfl) (Ae 10 (Bl)))))
theorem Ah3 (a:Rr) (b:Rr):∃r,Gm [.agg [.b,.s,.b,.s],.one .i] r/\AF Tryz.prog 147 [Cz a,Cz b] r:=by
 cases h:(Xc a&&Xc b) with
 |false=>exact AeS a b h
 |true=>
  obtain⟨h1,h2⟩:=Bool.and_eq_true_iff.1 h
  obtain⟨x,y,hx,hy,hyp,ex⟩:=Vo h1
  obtain⟨u,v,hu,hv,hvp,ey⟩:=Vo h2
  rw[ex,ey]
  exact Ah4 x y u v hx hy hu hv hyp hvp
noncomputable def AkP (a:Rr) (b:Rr):Value:=Kp 147 [.agg [.b,.s,.b,.s],.one .i] [Cz a,Cz b]
theorem jN (a:Rr) (b:Rr):AF Tryz.prog 147 [Cz a,Cz b] (.lit (Ht [.agg [.b,.s,.b,.s],.one .i] (AkP a b))):=Bv (Ah3 a b)
theorem Abl (x y:Int) (hx:Da x) (hy:Da y) (hyp:0<y):∃r,Gm [.agg [.b,.s],.one .i] r/\AF Tryz.prog 177 [Oy x y] r:=by
 have hd:=hx.digits
 have he:=hy.digits
 have p5:=Td (decide (x<0)) x.natAbs y.natAbs
 refine Cd func177 rfl ?_
 exact Ae 11 (gs (Aw (Qi x y (by assumption) (by assumption) (by assumption)) ·) (Ae 7 (gs (Dg [(2,_,.none),(5,_,.none),(6,_,.none)] [2,4] ⟨Bu (Ei x (by assumption)),Bu (Ei y (by assumption)),Bu (Mu (decide (x<0)) x.natAbs (decide (y<0)) y.natAbs ω ω ω),trivial⟩ ·) (Ae 4 (Eh (Mx (!decide ((decide (x<0))=(decide (y<0)))) (Ii (decide (x<0)) x.natAbs y.natAbs) ω) λv1 hv1=>(gs (Aw hv1 ·) (Ae 7 (Bl))))))))
theorem uO (a:Rr) (h:Xc a=false):∃r,Gm [.agg [.b,.s],.one .i] r/\AF Tryz.prog 177 [Cz a] r:=by
 refine Cd func177 rfl ?_
 exact Ae 11 (gs (Aw (Va a) ·) (Ae 3 (eW 8 (!Xc a) true (by rw[h];rfl) (Ae 10 (Bl)))))
theorem Abk (a:Rr):∃r,Gm [.agg [.b,.s],.one .i] r/\AF Tryz.prog 177 [Cz a] r:=by
 cases h:Xc a with
 |false=>exact uO a h
 |true=>
  obtain⟨x,y,hx,hy,hyp,ex⟩:=Vo h
  rw[ex]
  exact Abl x y hx hy hyp
noncomputable def Ah2 (a:Rr):Value:=Kp 177 [.agg [.b,.s],.one .i] [Cz a]
theorem zJ (a:Rr):AF Tryz.prog 177 [Cz a] (.lit (Ht [.agg [.b,.s],.one .i] (Ah2 a))):=Bv (Abk a)
theorem AbM (a:Rw) (h:Jm a=false):∃r,Gm [.one .i,.one .i] r/\AF Tryz.prog 40 [Gk a] r:=by
 refine Cd func40 rfl ?_
 exact Ae 11 (gs (Aw (Gz a) ·) (Ae 3 (eW 7 (!Jm a) true (by rw[h];rfl) (Ae 9 (Bl)))))
theorem Af4 (a:Rw):∃r,Gm [.one .i,.one .i] r/\AF Tryz.prog 40 [Gk a] r:=by
 cases h:Jm a with
 |false=>exact AbM a h
 |true=>
  obtain⟨x,hx,ex⟩:=Lp h
  rw[ex]
  exact⟨.lit (.tuple #[.int .i64 (iR x),.int .i64 (iE x)]),rfl,nH x hx⟩
noncomputable def Aka (a:Rw):Value:=Kp 40 [.one .i,.one .i] [Gk a]
theorem Ac4 (a:Rw):AF Tryz.prog 40 [Gk a] (.lit (Ht [.one .i,.one .i] (Aka a))):=Bv (Af4 a)
structure Ws where
 n:Nat
 f:Nat->Rw
abbrev Nn (l:Ws):AV:= .sl 2 l.n λi=>Gk (l.f i)
abbrev wsZ (n:Nat) (c:Nat->Int):Ws:=⟨n,λi=>⟨decide (c i<0),Dd (c i).natAbs⟩⟩
def AhW (g:Nat->Rw) (j:Nat) (r:Rw):Nat->Rw:=λk=>if k=j then r else g k
theorem AhX (g:Nat->Rw) (j:Nat) (r:Rw) (k:Nat):(if k=j then Gk r else Gk (g k))=Gk (AhW g j r k):=by unfold AhW;by_cases h:k=j<;>simp[h]
theorem rw0:AV.lit (Ar 0)=Gk ⟨false,⟨#[]⟩⟩:=by
 show AV.lit (Ar 0)= .lit (.agg #[.bool false,.string ⟨#[]⟩])
 unfold Ar
 rw[show (0:Int).natAbs=0 from rfl,Pk];rfl
theorem Ahq (s:Rw) (a:Rw) (k:Int):∃r,Gm [.agg [.b,.s]] r/\AF Tryz.prog 200 [Gk s,Gk a,.int k] r:=by
 refine Cd func200 rfl ?_
 exact Ae 8 (Eh (Ma k) λv1 hv1=>(Eh (bK a (⟨(gB (gT v1 0)),(gS (gT v1 1))⟩)) λv2 hv2=>(gs (Dg [(2,_,.none),(3,_,.none)] [3,4,6] ⟨Bu hv1,Bu hv2,trivial⟩ ·) (Ae 5 (Eh (nF s (⟨(gB (gT (gT v2 0) 0)),(gS (gT (gT v2 0) 1))⟩)) λv3 hv3=>(gs (Aw hv3 ·) (Ae 13 (Bl))))))))
noncomputable def AkH (s:Rw) (a:Rw) (k:Int):Value:=Kp 200 [.agg [.b,.s]] [Gk s,Gk a,.int k]
theorem Agd (s:Rw) (a:Rw) (k:Int):AF Tryz.prog 200 [Gk s,Gk a,.int k] (.lit (Ht [.agg [.b,.s]] (AkH s a k))):=Bv (Ahq s a k)
theorem Aic (n:Int) (k:Nat) (h0:k<=1000000):∃r,Gm [.one .i] r/\AF Tryz.prog 201 [.int n,.int (k:Int)] r:=by
 refine Cd func201 rfl ?_
 refine Ae 18 (Vy [0,5,7,8] (λm s=>∃i w,m=k-i/\(i<=k)/\s=⟨[(0,.int n),(5,.int w),(7,.int (k:Int)),(8,.int (i:Int))],[],0,21⟩) (k-0) ⟨0,1,rfl,Nat.zero_le _,κ⟩ ?_)
 rintro _ _ ⟨i,w,rfl,hF,rfl⟩ hJ1
 refine Ae 6 (Jf 9 ((i:Int)<(k:Int)) (λhx1 hx1d=>?_) (λhx1 hx1d=>?_))
 exact Ae 18 (gs (Dm ((i:Int)+1) ((i+1:Nat):Int) ·) (gs (AlH (Ai (w*(Ai (n-(i:Int))))) ((i+1:Nat):Int) ω ·) (Ae 5 (gs (Dm ((i:Int)+1) ((i+1:Nat):Int) ·) (Ae 2 (qS [0,5,7,8] (hJ1 _ _ (by omega:k-(i+1)<k-i) ⟨i+1,(Ai (Int.tdiv (Ai (w*(Ai (n-(i:Int))))) ((i+1:Nat):Int))),rfl,ω,rfl⟩)))))))
 exact Ae 13 (Bl)
noncomputable def Ald (n:Int) (k:Nat):Value:=Kp 201 [.one .i] [.int n,.int (k:Int)]
theorem vY (n:Int) (k:Nat) (h0:k<=1000000):AF Tryz.prog 201 [.int n,.int (k:Int)] (.lit (Ht [.one .i] (Ald n k))):=Bv (Aic n k h0)
theorem AdS (l:Ws) (h0:l.n<=1000000):∃r,Gm [.one .i] r/\AF Tryz.prog 172 [Nn l] r:=by
 refine Cd func172 rfl ?_
 refine Ae 19 (Vy [3,6,7,8] (λm s=>∃i w,m=l.n-i/\(i<=l.n)/\s=⟨[(3,.int w),(6,Nn l),(7,.int (l.n:Int)),(8,.int (i:Int))],[],0,18⟩) (l.n-0) ⟨0,0,rfl,Nat.zero_le _,κ⟩ ?_)
 rintro _ _ ⟨i,w,rfl,hF,rfl⟩ hJ1
 refine Ae 6 (Jf 9 ((i:Int)<(l.n:Int)) (λhx1 hx1d=>?_) (λhx1 hx1d=>?_))
 exact Ae 7 (gs (Iz i l.n ·) (Ae 8 (Eh (Ac5 (l.f i)) λv2 hv2=>(gs (Aw hv2 ·) (gs (Bi (.int (max w (gI v2))) .none (Of (.tmp 12) (.tmp 14) #[3,3] κ w (gI v2) κ κ) ·) (Ae 5 (gs (Dm ((i:Int)+1) ((i+1:Nat):Int) ·) (Ae 2 (Hd [3,6,7,8] [] 0 [] trivial (hJ1 _ _ (by omega:l.n-(i+1)<l.n-i) ⟨i+1,(max w (gI v2)),rfl,ω,rfl⟩))))))))))
 exact Ae 13 (Bl)
noncomputable def Ajp (l:Ws):Value:=Kp 172 [.one .i] [Nn l]
theorem mY (l:Ws) (h0:l.n<=1000000):AF Tryz.prog 172 [Nn l] (.lit (Ht [.one .i] (Ajp l))):=Bv (AdS l h0)
instance:Nonempty Ws:=⟨⟨0,λ_=>⟨false,⟨#[]⟩⟩⟩⟩
theorem Aj9 (p:Ws) (d:Nat) (hp:p.n<=25) (hd:d<=24):∃r,(∃w:Ws,w.n=d+1/\r=Nn w)/\AF Tryz.prog 173 [Nn p,.int (d:Int)] r:=by
 refine Cd func173 rfl ?_
 refine Ae 8 (gs (Dm ((d:Int)+1) ((d+1:Nat):Int) ·) (gs (Bi (.osl 0 2 (d+1)) (.new 0 (.vec 94 2 (d+1) (λ_=> .lit (Ar 0)))) (Ur 247 (.tmp 9) (.tmp 9) κ underlying247 2 24 (.agg #[.bool false,.string ⟨#[]⟩]) κ κ δ ((d+1:Nat):Int) (d+1) ω κ κ ω ω ω 0 (.lit (Ar 0)) κ) ·) (Ae 12 (gs (vvx 0 94 2 (d+1) (λ_=> .lit (Ar 0)) (λxi=>Gk ((λ_=>⟨false,⟨#[]⟩⟩) xi)) (λx9 hx9=>rw0) ·) (Vy [0,1,5,12,13] (λm s=>∃j g,m=d+1-j/\(j<=d+1)/\s=⟨[(0,Nn p),(1,.int (d:Int)),(5,.osl 0 2 (d+1)),(12,.int ((d+1:Nat):Int)),(13,.int (j:Int))],[(0,.vec 94 2 (d+1) (λxi=>Gk (g xi)))],1,48⟩) (d+1-0) ⟨0,(λ_=>⟨false,⟨#[]⟩⟩),rfl,Nat.zero_le _,κ⟩ ?_)))))
 rintro _ _ ⟨j,g,rfl,hF,rfl⟩ hJ1
 refine Ae 6 (Jf 14 ((j:Int)<((d+1:Nat):Int)) (λhx1 hx1d=>?_) (λhx1 hx1d=>?_))
 refine Ae 17 (Vy [0,1,5,6,7,12,13] (λm s=>∃i q,m=j+1-i/\(i<=j+1)/\s=⟨[(0,Nn p),(1,.int (d:Int)),(5,.osl 0 2 (d+1)),(6,.int (j:Int)),(7,.int (i:Int)),(12,.int ((d+1:Nat):Int)),(13,.int (j:Int))],[(0,.vec 94 2 (d+1) (λxi=>Gk (q xi)))],1,48⟩) (j+1-0) ⟨0,g,rfl,Nat.zero_le _,κ⟩ ?_)
 rintro _ _ ⟨i,q,rfl,hF,rfl⟩ hJ2
 refine Ae 7 (Jf 19 ((i:Int)<=(j:Int)) (λhx2 hx2d=>?_) (λhx2 hx2d=>?_))
 refine Ae 7 (Jf 24 ((i:Int)<(p.n:Int)) (λhx3 hx3d=>?_) (λhx3 hx3d=>?_))
 exact Ae 5 (Eh (vY ((d-i:Nat):Int) (j-i) ω) λv4 hv4=>(Eh (Agd (q j) (p.f i) (gI v4)) λv5 hv5=>(gs (Dg [(4,Dx (.osl 0 2 (d+1)) j,.none),(5,Gk (q j),(.read 0)),(8,Dx (Nn p) i,.none),(12,.int ((d-i:Nat):Int),.none),(15,.int ((j-i:Nat):Int),.none),(16,_,.none),(17,_,.none),(18,Dx (.osl 0 2 (d+1)) j,.none),(19,.lit Go.undef,(.set 0 (.vec 94 2 (d+1) (λxi=>if xi=j then .lit (.agg #[.bool (gB (gT v5 0)),.string (gS (gT v5 1))]) else (λxi=>Gk (q xi)) xi))))] [0,1,5,6,7,12,13] ⟨Pc j (d+1),As (Bz 94 (.tmp 31) κ isAgg94 2 sizeOf94 0 j κ 94 (d+1) (λxi=>Gk (q xi)) κ ω),Pc i p.n,As (Bb (v:= .int .i64 (IntKind.wrap .i64 ((d:Int)-(i:Int)))) (v':= .int .i64 ((d-i:Nat):Int)) _ κ rfl κ (λw=>by kernel_rfl) (congrArg (Value.int .i64) ((IntWalk.i64_in _ ω).trans ω))),As (Bb (v:= .int .i64 (IntKind.wrap .i64 ((j:Int)-(i:Int)))) (v':= .int .i64 ((j-i:Nat):Int)) _ κ rfl κ (λw=>by kernel_rfl) (congrArg (Value.int .i64) ((IntWalk.i64_in _ ω).trans ω))),Bu hv4,Bu hv5,Pc j (d+1),As (Hz 94 (.tmp 45) (.tmp 44) κ 2 sizeOf94 0 j κ 94 (d+1) (λxi=>Gk (q xi)) κ ω κ κ κ (.lit (.agg #[.bool (gB (gT v5 0)),.string (gS (gT v5 1))])) κ),trivial⟩ ·) (Ae 4 (gs (Dm ((i:Int)+1) ((i+1:Nat):Int) ·) (Ae 2 (gs (vvx 0 94 2 (d+1) (λxi=>if xi=j then .lit (.agg #[.bool (gB (gT v5 0)),.string (gS (gT v5 1))]) else (λxi=>Gk (q xi)) xi) (λxi=>Gk ((AhW q j (⟨(gB (gT v5 0)),(gS (gT v5 1))⟩)) xi)) (λx9 hx9=>AhX q j (⟨(gB (gT v5 0)),(gS (gT v5 1))⟩) x9) ·) (qS [0,1,5,6,7,12,13] (hJ2 _ _ (by omega:j+1-(i+1)<j+1-i) ⟨i+1,(AhW q j (⟨(gB (gT v5 0)),(gS (gT v5 1))⟩)),rfl,ω,rfl⟩)))))))))
 exact Ae 8 (gs (Dm ((j:Int)+1) ((j+1:Nat):Int) ·) (Ae 2 (qS [0,1,5,12,13] (hJ1 _ _ (by omega:d+1-(j+1)<d+1-j) ⟨j+1,q,rfl,ω,rfl⟩))))
 exact Ae 15 (gs (Dm ((j:Int)+1) ((j+1:Nat):Int) ·) (Ae 2 (qS [0,1,5,12,13] (hJ1 _ _ (by omega:d+1-(j+1)<d+1-j) ⟨j+1,q,rfl,ω,rfl⟩))))
 exact Ae 12 (gs (AbI 0 [4] 94 2 (d+1) (λxi=>Gk (g xi)) (Fe λ_ _=>rfl) ·) (Ae 1 (ten ⟨⟨d+1,g⟩,rfl,rfl⟩)))
theorem AkE (p:Ws) (d:Nat) (hp:p.n<=25) (hd:d<=24):∃w:Ws,w.n=d+1/\AF Tryz.prog 173 [Nn p,.int (d:Int)] (Nn w):=by
 obtain⟨r,⟨w,h1,rfl⟩,h2⟩:=Aj9 p d hp hd
 exact⟨w,h1,h2⟩
theorem AbS (a:Rw):∃r,Gm [.one .i] r/\AF Tryz.prog 167 [Gk a] r:=by
 cases h:Jm a with
 |true=>
  obtain⟨x,hx,ex⟩:=Lp h
  rw[ex]
  exact⟨.int x.sign,rfl,Mz x hx⟩
 |false=>
  refine Cd func167 rfl ?_
  exact Ae 10 (gs (Aw (Gz a) ·) (Ae 3 (eW 5 (!Jm a) true (by rw[h];rfl) (Ae 8 (Bl)))))
noncomputable def Aif (a:Rw):Value:=Kp 167 [.one .i] [Gk a]
theorem Iw (a:Rw):AF Tryz.prog 167 [Gk a] (.lit (Ht [.one .i] (Aif a))):=Bv (AbS a)
theorem sJ (l:Ws) (h0:l.n<=1000000):∃r,Gm [.one .b] r/\AF Tryz.prog 202 [Nn l,.fn 203 []] r:=by
 refine Cd func202 rfl ?_
 refine Ae 9 (mH func217 (Ae 14 (Vy [0,1,7,8] (λm s=>∃q,m=l.n-q/\(q<=l.n)/\s=⟨[(0,Nn l),(1,.fn 203 []),(7,.int (l.n:Int)),(8,.int (q:Int))],[],0,19⟩) (l.n-0) ⟨0,rfl,Nat.zero_le _,κ⟩ ?_)))
 rintro _ _ ⟨q,rfl,hF,rfl⟩ hJ1
 refine Ae 6 (Jf 9 ((q:Int)<(l.n:Int)) (λhx2 hx2d=>?_) (λhx2 hx2d=>?_))
 refine Ae 16 (gs (Iz q l.n ·) (Ae 1 (Afh func203 (Ae 9 (gs (Aw (Gz (l.f q)) ·) (Ae 5 (Kl (Ae 2 (Ff 16 ?_ ?_)))))))))
 exact Ae 13 (Kl (Ae 5 (Bl)))
 exact Ae 5 (gs (Dm ((q:Int)+1) ((q+1:Nat):Int) ·) (Ae 2 (Hd [0,1,7,8] [] 0 [] trivial (hJ1 _ _ (by omega:l.n-(q+1)<l.n-q) ⟨q+1,rfl,ω,rfl⟩))))
 exact Ae 12 (Kl (Ae 5 (Bl)))
noncomputable def Adi (l:Ws):Value:=Kp 202 [.one .b] [Nn l,.fn 203 []]
theorem rL (l:Ws) (h0:l.n<=1000000):AF Tryz.prog 202 [Nn l,.fn 203 []] (.lit (Ht [.one .b] (Adi l))):=Bv (sJ l h0)
theorem Aaa (l:Ws) (h0:l.n<=1000000):∃r,Gm [.one .b] r/\AF Tryz.prog 174 [Nn l] r:=by
 refine Cd func174 rfl ?_
 refine Ae 11 (Jf 6 ((1:Int)<=(l.n:Int)) (λhx1 hx1d=>?_) (λhx1 hx1d=>?_))
 refine Ae 5 (Jf 11 ((l.n:Int)<=25) (λhx2 hx2d=>?_) (λhx2 hx2d=>?_))
 exact Ae 1 (Eh (rL l ω) λv3 hv3=>(gs (Aw hv3 ·) (Ae 6 (Bl))))
 exact Ae 8 (Bl)
 exact Ae 13 (Bl)
noncomputable def Agx (l:Ws):Value:=Kp 174 [.one .b] [Nn l]
theorem yV (l:Ws) (h0:l.n<=1000000):AF Tryz.prog 174 [Nn l] (.lit (Ht [.one .b] (Agx l))):=Bv (Aaa l h0)
theorem Abd (l:Ws) (h0:l.n<=1000000):∃r,Gm [.one .b] r/\AF Tryz.prog 166 [Nn l] r:=by
 refine Cd func166 rfl ?_
 refine Ae 14 (Vy [0,5,6,7] (λm s=>∃q,m=l.n-q/\(q<=l.n)/\s=⟨[(0,Nn l),(5,Nn l),(6,.int (l.n:Int)),(7,.int (q:Int))],[],0,33⟩) (l.n-0) ⟨0,rfl,Nat.zero_le _,κ⟩ ?_)
 rintro _ _ ⟨q,rfl,hF,rfl⟩ hJ1
 refine Ae 6 (Jf 8 ((q:Int)<(l.n:Int)) (λhx1 hx1d=>?_) (λhx1 hx1d=>?_))
 refine Ae 7 (gs (Iz q l.n ·) (Ae 8 (gs (Aw (Gz (l.f q)) ·) (Ae 3 (Ff 13 ?_ ?_)))))
 exact Ae 12 (Bl)
 exact Ae 5 (gs (Dm ((q:Int)+1) ((q+1:Nat):Int) ·) (Ae 2 (Hd [0,5,6,7] [] 0 [] trivial (hJ1 _ _ (by omega:l.n-(q+1)<l.n-q) ⟨q+1,rfl,ω,rfl⟩))))
 refine Ae 12 (Jf 18 ((l.n:Int)<=25) (λhx2 hx2d=>?_) (λhx2 hx2d=>?_))
 refine Ae 4 (Jf 22 ((l.n:Int)=0) (λhx3 hx3d=>?_) (λhx3 hx3d=>?_))
 exact Ae 14 (Bl)
 exact Ae 3 (gs (Dm ((l.n:Int)-1) ((l.n-1:Nat):Int) ·) (gs (Iz (l.n-1) l.n ·) (Ae 1 (Eh (Iw (l.f (l.n-1))) λv4 hv4=>(gs (Aw hv4 ·) (Ae 7 (Bl)))))))
 exact Ae 18 (Bl)
noncomputable def Ahu (l:Ws):Value:=Kp 166 [.one .b] [Nn l]
theorem zI (l:Ws) (h0:l.n<=1000000):AF Tryz.prog 166 [Nn l] (.lit (Ht [.one .b] (Ahu l))):=Bv (Abd l h0)
theorem Aeh (l:Ws) (g:Bool) (h0:l.n<=1000000):∃r,Gm [.agg [.b,.s,.b,.s]] r/\AF Tryz.prog 175 [.slc 1 1 λ_=>Nn l,.bool g] r:=by
 refine Cd func175 rfl ?_
 refine Ae 19 (gs (vul 1 ·) (Ae 14 (gs (Iz 0 1 ·) (Ae 13 (Vy [1,4,5,6,7,14,15,16,21,22,23] (λm s=>∃(j:Nat) (b:Rr),m=l.n-j/\(j<=l.n)/\s=⟨[(1,.bool g),(4,.ptr 0 0),(5,.ptr 1 0),(6,.int 0),(7,Nn l),(14,.slc 1 1 (λi0=>Nn l)),(15,.int 1),(16,.int 0),(21,Nn l),(22,.int (l.n:Int)),(23,.int (j:Int))],[(0,.box 201 [.bool false,.lit (.string ⟨#[]⟩),.bool false,.lit (.string ⟨#[]⟩)]),(1,.box 201 [.bool b.num.neg,.lit (.string b.num.mag),.bool b.den.neg,.lit (.string b.den.mag)])],2,63⟩) (l.n-0) ⟨0,⟨⟨false,⟨#[]⟩⟩,⟨false,⟨#[]⟩⟩⟩,rfl,Nat.zero_le _,κ⟩ ?_)))))
 rintro _ _ ⟨j,b,rfl,hF,rfl⟩ hJ1
 refine Ae 6 (Jf 24 ((j:Int)<(l.n:Int)) (λhx1 hx1d=>?_) (λhx1 hx1d=>?_))
 refine Ae 8 (gs (Iz j l.n ·) (Ae 7 (Eh (vY ((l.n-1:Nat):Int) j ω) λv2 hv2=>(Eh (Ma (gI v2)) λv3 hv3=>(Eh (Yh (l.f j) (⟨(gB (gT v3 0)),(gS (gT v3 1))⟩)) λv4 hv4=>(gs (Dg [(3,.int ((l.n-1:Nat):Int),.none),(5,_,.none),(6,_,.none),(7,_,.none)] [1,4,5,6,7,8,10,14,15,16,21,22,23] ⟨As (Bb (v:= .int .i64 (IntKind.wrap .i64 ((l.n:Int)-1))) (v':= .int .i64 ((l.n-1:Nat):Int)) _ κ rfl κ (λw=>by kernel_rfl) (congrArg (Value.int .i64) ((IntWalk.i64_in _ ω).trans ω))),Bu hv2,Bu hv3,Bu hv4,trivial⟩ ·) (Ae 5 (Eh (Age (⟨⟨(gB (gT (gT v4 0) 0)),(gS (gT (gT v4 0) 1))⟩,⟨(gB (gT (gT v4 0) 2)),(gS (gT (gT v4 0) 3))⟩⟩) b) λv5 hv5=>(gs (Aw hv5 ·) (Ae 11 (gs (Dm ((0:Int)+(j:Int)) ((0+j:Nat):Int) ·) (Ae 2 (Jf 49 (((0+j:Nat):Int)=0) (λhx6 hx6d=>?_) (λhx6 hx6d=>?_))))))))))))))
 exact Ae 19 (gs (Dm ((j:Int)+1) ((j+1:Nat):Int) ·) (Ae 2 (Hd [1,4,5,6,7,14,15,16,21,22,23] [(0,0),(1,1)] 2 [] trivial (hJ1 _ _ (by omega:l.n-(j+1)<l.n-j) ⟨j+1,⟨⟨(gB (gT (gT v4 0) 0)),(gS (gT (gT v4 0) 1))⟩,⟨(gB (gT (gT v4 0) 2)),(gS (gT (gT v4 0) 3))⟩⟩,rfl,ω,rfl⟩))))
 refine Ae 3 (gs (Mm (.bool (!decide (decide ((gI (gT v5 0))<0)=g))) (.bool (!decide (decide ((gI (gT v5 0))<0)=g))) ·) (Ae 1 (Ff 54 ?_ ?_)))
 refine Ae 6 (Ff 58 ?_ ?_)
 exact Ae 8 (gs (Dm ((j:Int)+1) ((j+1:Nat):Int) ·) (Ae 2 (Hd [1,4,5,6,7,14,15,16,21,22,23] [(0,0),(1,1)] 2 [] trivial (hJ1 _ _ (by omega:l.n-(j+1)<l.n-j) ⟨j+1,⟨⟨(gB (gT (gT v4 0) 0)),(gS (gT (gT v4 0) 1))⟩,⟨(gB (gT (gT v4 0) 2)),(gS (gT (gT v4 0) 3))⟩⟩,rfl,ω,rfl⟩))))
 exact Ae 5 (gs (Dm ((j:Int)+1) ((j+1:Nat):Int) ·) (Ae 2 (Hd [1,4,5,6,7,14,15,16,21,22,23] [(0,0),(1,1)] 2 [] trivial (hJ1 _ _ (by omega:l.n-(j+1)<l.n-j) ⟨j+1,b,rfl,ω,rfl⟩))))
 exact Ae 11 (gs (Dm ((j:Int)+1) ((j+1:Nat):Int) ·) (Ae 2 (Hd [1,4,5,6,7,14,15,16,21,22,23] [(0,0),(1,1)] 2 [] trivial (hJ1 _ _ (by omega:l.n-(j+1)<l.n-j) ⟨j+1,b,rfl,ω,rfl⟩))))
 exact Ae 31 (Bl)
noncomputable def Ajx (l:Ws) (g:Bool):Value:=Kp 175 [.agg [.b,.s,.b,.s]] [.slc 1 1 λ_=>Nn l,.bool g]
theorem mZ (l:Ws) (g:Bool) (h0:l.n<=1000000):AF Tryz.prog 175 [.slc 1 1 λ_=>Nn l,.bool g] (.lit (Ht [.agg [.b,.s,.b,.s]] (Ajx l g))):=Bv (Aeh l g h0)
theorem zZ (l:Ws) (h0:l.n<=1000000):∃r,Gm [.agg [.b,.s,.b,.s],.agg [.b,.s,.b,.s],.one .i] r/\AF Tryz.prog 130 [Nn l] r:=by
 refine Cd func130 rfl ?_
 refine Ae 18 (Eh (yV l ω) λv1 hv1=>(gs (Aw hv1 ·) (Ae 4 (Ff 7 ?_ ?_))))
 exact Ae 2 (gs (Dg [] [2,3,4] trivial ·) (Ae 4 (Bl)))
 refine Ae 4 (Eh (mY l ω) λv2 hv2=>(gs (Aw hv2 ·) (Ae 5 (Ff 13 ?_ ?_))))
 exact Ae 2 (gs (Dg [] [2,3,4] trivial ·) (Ae 4 (Bl)))
 exact Ae 7 (gs (Bi (.osl 2 1 1) (.new 2 (.vec 247 1 1 (λ_=>Nn l))) (Au 250 1 #[(0,(.tmp 20))] κ underlying250 1 sizeOf247 _ zeroValue247 κ β β β 2 [Nn l] κ (λ_=>Nn l) κ) ·) (Eh (mZ l false ω) λv3 hv3=>(gs (Bi (.lit (.agg #[.bool (gB (gT v3 0)),.string (gS (gT v3 1)),.bool (gB (gT v3 2)),.string (gS (gT v3 3))])) (.drop 2) (Im 175 #[.tmp 21,(.const (.bool false))] #[250,4] κ (λ_ _=>by kernel_rfl) 2 (.vec 247 1 1 (λ_=>Nn l)) κ (λ_ _ _ _ h=>by cases h;exact(Fe λ_ _=>rfl)) [.osl 2 1 1,.bool false] κ [.slc 1 1 (λ_=>Nn l),.bool false] κ (.lit (.agg #[.bool (gB (gT v3 0)),.string (gS (gT v3 1)),.bool (gB (gT v3 2)),.string (gS (gT v3 3))])) hv3) ·) (Ae 1 (gs (Bi (.osl 3 1 1) (.new 3 (.vec 247 1 1 (λ_=>Nn l))) (Au 250 1 #[(0,(.tmp 23))] κ underlying250 1 sizeOf247 _ zeroValue247 κ β β β 3 [Nn l] κ (λ_=>Nn l) κ) ·) (Eh (mZ l true ω) λv4 hv4=>(gs (Bi (.lit (.agg #[.bool (gB (gT v4 0)),.string (gS (gT v4 1)),.bool (gB (gT v4 2)),.string (gS (gT v4 3))])) (.drop 3) (Im 175 #[.tmp 24,(.const (.bool true))] #[250,4] κ (λ_ _=>by kernel_rfl) 3 (.vec 247 1 1 (λ_=>Nn l)) κ (λ_ _ _ _ h=>by cases h;exact(Fe λ_ _=>rfl)) [.osl 3 1 1,.bool true] κ [.slc 1 1 (λ_=>Nn l),.bool true] κ (.lit (.agg #[.bool (gB (gT v4 0)),.string (gS (gT v4 1)),.bool (gB (gT v4 2)),.string (gS (gT v4 3))])) hv4) ·) (Ae 6 (Bl)))))))))
noncomputable def Agw (l:Ws):Value:=Kp 130 [.agg [.b,.s,.b,.s],.agg [.b,.s,.b,.s],.one .i] [Nn l]
theorem yU (l:Ws) (h0:l.n<=1000000):AF Tryz.prog 130 [Nn l] (.lit (Ht [.agg [.b,.s,.b,.s],.agg [.b,.s,.b,.s],.one .i] (Agw l))):=Bv (zZ l h0)
theorem AdP (p:Ws) (d:Nat) (hp:p.n<=25) (hd:d<=1000):∃r,(∃w:Ws×Int,w.1.n<=25/\(r= .tup [Nn w.1,.int w.2]\/r= .lit (.tuple #[.slice none 0 0,.int .i64 w.2])))/\AF Tryz.prog 129 [Nn p,.int (d:Int)] r:=by
 refine Cd func129 rfl ?_
 refine Ae 11 (Eh (zI p ω) λv1 hv1=>(gs (Aw hv1 ·) (Ae 2 (Ff 10 ?_ ?_))))
 exact Ae 20 (ten ⟨(⟨0,λ_=>⟨false,⟨#[]⟩⟩⟩,2),(by decide:(0:Nat)<=25),.inr rfl⟩)
 refine Ae 4 (eW 14 (decide ((d:Int)<0)) false (decide_eq_false ω) (Ae 6 (Jf 6 ((24:Int)<(d:Int)) (λhx3 hx3d=>?_) (λhx3 hx3d=>?_))))
 exact Ae 10 (ten ⟨(⟨0,λ_=>⟨false,⟨#[]⟩⟩⟩,2),(by decide:(0:Nat)<=25),.inr rfl⟩)
 refine Ae 6 (gs (λh9=>Mm (.int .i64 (IntKind.wrap .i64 ((p.n:Int)-1))) (.int .i64 ((p.n:Int)-1)) h9 (congrArg (Value.int .i64) (IntWalk.i64_in _ ω))) (Ae 4 (Jf 18 ((d:Int)<(p.n:Int)-1) (λhx4 hx4d=>?_) (λhx4 hx4d=>?_))))
 exact Ae 10 (ten ⟨(⟨0,λ_=>⟨false,⟨#[]⟩⟩⟩,3),(by decide:(0:Nat)<=25),.inr rfl⟩)
 refine Ae 4 (Eh (mY p ω) λv5 hv5=>(gs (Aw hv5 ·) (Ae 5 (Jf 24 ((65536:Int)<Ai ((gI v5)+30)) (λhx6 hx6d=>?_) (λhx6 hx6d=>?_)))))
 exact Ae 10 (ten ⟨(⟨0,λ_=>⟨false,⟨#[]⟩⟩⟩,7),(by decide:(0:Nat)<=25),.inr rfl⟩)
 refine Ae 8 (Exists.elim (AkE p d ω ω) λv7 hv7=>?_)
 have hv7n:=hv7.1
 exact gs (Aw hv7.2 ·) (Ae 5 (ten ⟨(v7,0),by show v7.n<=25;omega,.inl rfl⟩))
theorem AgL (p:Ws) (d:Nat) (h:p.n<=25/\d<=1000):∃w:Ws×Int,w.1.n<=25/\AF Tryz.prog 129 [Nn p,.int (d:Int)] (.tup [Nn w.1,.int w.2]):=by
 obtain⟨r,⟨w,h1,h3⟩,h2⟩:=AdP p d h.1 h.2
 rcases h3 with rfl|rfl
 exact⟨w,h1,h2⟩
 refine⟨(⟨0,λ_=>⟨false,⟨#[]⟩⟩⟩,w.2),Nat.zero_le _,rW h2 rfl (λ_ _ _ _ h=>h) λE v h=>?_⟩
 have:=h.lit_inv
 subst this
 exact AhU (.sl0 _ _ _ _ _) (.lit _ _)
def cA (l:List Int) (d k:Nat):Prop:=0<l.length/\l.length<=6/\(∀i,Cc (l.getD i 0))/\d<=8/\k<2^d
theorem AkI {d:Nat} (h:d<=8):2^d<=256:=Nat.le_trans (Nat.pow_le_pow_right δ h) δ
theorem AlC {d:Nat} (h:d<=8):IntKind.wrap .i64 (1*2^min (d:Int).toNat 64)=((2^d:Nat):Int):=by
 match d,h with
 |0,_|1,_|2,_|3,_|4,_|5,_|6,_|7,_|8,_=>decide
theorem Abq (n:Rw) (q:Rr):∃r,Gm [.agg [.b,.s]] r/\AF Tryz.prog 132 [Gk n,Cz q] r:=by
 refine Cd func132 rfl ?_
 exact Ae 12 (Eh (bK n q.den) λv1 hv1=>(gs (Aw hv1 ·) (Ae 15 (Bl))))
noncomputable def AhA (n:Rw) (q:Rr):Value:=Kp 132 [.agg [.b,.s]] [Gk n,Cz q]
theorem fW (n:Rw) (q:Rr):AF Tryz.prog 132 [Gk n,Cz q] (.lit (Ht [.agg [.b,.s]] (AhA n q))):=Bv (Abq n q)
theorem Aa3 (q:Rr):∃r,Gm [.one .i] r/\AF Tryz.prog 134 [Cz q] r:=by
 refine Cd func134 rfl ?_
 exact Ae 9 (Eh (zJ q) λv1 hv1=>(gs (Aw hv1 ·) (Ae 11 (Eh (Ac4 (⟨(gB (gT (gT v1 0) 0)),(gS (gT (gT v1 0) 1))⟩)) λv2 hv2=>(gs (Aw hv2 ·) (Ae 14 (Bl)))))))
noncomputable def AgR (q:Rr):Value:=Kp 134 [.one .i] [Cz q]
theorem fS (q:Rr):AF Tryz.prog 134 [Cz q] (.lit (Ht [.one .i] (AgR q))):=Bv (Aa3 q)
theorem Aed (l:List Int) (o:Int) (d:Nat) (k:Nat) (h0:cA l d k):∃r,Gm [.one .i,.one .i] r/\AF Tryz.prog 108 [Bn l,.int o,.int (d:Int),.int (k:Int)] r:=by
 have hn1:=h0.1
 have hn2:=h0.2.1
 have hd8:=h0.2.2.2.1
 have hk:=h0.2.2.2.2
 have hp:=AkI hd8
 have hp0:=Nat.two_pow_pos d
 have ho:ocN l<=l.length:=Xu (mF l) l.length
 have ho2:Hu (oc1 l (k:Int) 1 ((2^d:Nat):Int)) (ocN l)<=ocN l:=Xu _ _
 have hn25:Hu (oc1 l (k:Int) 1 ((2^d:Nat):Int)) (ocN l)<=25/\l.length-1<=1000:=⟨ω,ω⟩
 refine Cd func108 rfl ?_
 refine Ae 9 (gs (Aw (zH l h0.1 ω h0.2.2.1) ·) (Ae 8 (gs (Dg [(2,_,.none),(3,_,.none),(5,.int ((2^d:Nat):Int),.none),(6,_,.none),(7,_,.none)] [0,1,2,10] ⟨Bu (Hk (k:Int) ω ω),Bu (Hk 1 ω ω),As (Bb (v:= .int .i64 (IntKind.wrap .i64 (1*2^min (d:Int).toNat 64))) (v':= .int .i64 ((2^d:Nat):Int)) _ κ rfl κ (λw=>by kernel_rfl) (congrArg (Value.int .i64) (AlC h0.2.2.2.1))),Bu (Hk ((2^d:Nat):Int) ω ω),Bu (rM (ocN l) (mF l) (k:Int) 1 ((2^d:Nat):Int) ω h0.2.2.1 (eN _ _) ⟨ω,ω⟩ ⟨δ,δ⟩ ⟨ω,ω⟩ ω),trivial⟩ ·) (Ae 6 (gs (Dm ((l.length:Int)-1) ((l.length-1:Nat):Int) ·) (Exists.elim (AgL (wsZ (Hu (oc1 l (k:Int) 1 ((2^d:Nat):Int)) (ocN l)) (oc1 l (k:Int) 1 ((2^d:Nat):Int))) (l.length-1) (by first|omega|exact hn25)) λv1 hv1=>?_))))))
 have hv1n:=hv1.1
 exact gs (Aw hv1.2 ·) (Ae 10 (Eh (yU v1.1 ω) λv2 hv2=>(gs (Aw hv2 ·) (Ae 14 (Eh (Ma o) λv3 hv3=>(gs (Aw hv3 ·) (Ae 3 (gs (Dm ((l.length:Int)-1) ((l.length-1:Nat):Int) ·) (Ae 1 (Eh (rX (⟨(gB (gT v3 0)),(gS (gT v3 1))⟩) (Ai ((d:Int)*((l.length-1:Nat):Int)))) λv4 hv4=>(gs (Aw hv4 ·) (Ae 12 (Eh (fW (⟨(gB (gT (gT v4 0) 0)),(gS (gT (gT v4 0) 1))⟩) (⟨⟨(gB (gT (gT v2 0) 0)),(gS (gT (gT v2 0) 1))⟩,⟨(gB (gT (gT v2 0) 2)),(gS (gT (gT v2 0) 3))⟩⟩)) λv5 hv5=>(gs (Aw hv5 ·) (Ae 8 (Eh (Yh (⟨(gB (gT (gT v2 0) 0)),(gS (gT (gT v2 0) 1))⟩) (⟨(gB (gT v5 0)),(gS (gT v5 1))⟩)) λv6 hv6=>(gs (Aw hv6 ·) (Ae 11 (Eh (fS (⟨⟨(gB (gT (gT v6 0) 0)),(gS (gT (gT v6 0) 1))⟩,⟨(gB (gT (gT v6 0) 2)),(gS (gT (gT v6 0) 3))⟩⟩)) λv7 hv7=>(gs (Aw hv7 ·) (Ae 7 (Eh (Ac7 (⟨(gB (gT (gT v2 1) 0)),(gS (gT (gT v2 1) 1))⟩)) λv8 hv8=>(gs (Aw hv8 ·) (Ae 11 (gs (Aw hv3 ·) (Ae 3 (gs (Dm ((l.length:Int)-1) ((l.length-1:Nat):Int) ·) (Ae 1 (gs (Aw hv4 ·) (Ae 10 (Eh (fW (⟨(gB (gT (gT v4 0) 0)),(gS (gT (gT v4 0) 1))⟩) (⟨⟨(gB (gT (gT v2 1) 0)),(gS (gT (gT v2 1) 1))⟩,⟨(gB (gT (gT v2 1) 2)),(gS (gT (gT v2 1) 3))⟩⟩)) λv9 hv9=>(gs (Aw hv9 ·) (Ae 7 (Eh (Yh (⟨(gB (gT (gT v8 0) 0)),(gS (gT (gT v8 0) 1))⟩) (⟨(gB (gT v9 0)),(gS (gT v9 1))⟩)) λv10 hv10=>(gs (Aw hv10 ·) (Ae 12 (Eh (fS (⟨⟨(gB (gT (gT v10 0) 0)),(gS (gT (gT v10 0) 1))⟩,⟨(gB (gT (gT v10 0) 2)),(gS (gT (gT v10 0) 3))⟩⟩)) λv11 hv11=>(gs (Aw hv11 ·) (gs (Mm (.int .i64 (Ai (0-(gI v11)))) (.int .i64 (Ai (0-(gI v11)))) ·) (Ae 5 (Bl)))))))))))))))))))))))))))))))))))))))))
noncomputable def Ajv (l:List Int) (o:Int) (d:Nat) (k:Nat):Value:=Kp 108 [.one .i,.one .i] [Bn l,.int o,.int (d:Int),.int (k:Int)]
theorem bI (l:List Int) (o:Int) (d:Nat) (k:Nat) (h0:cA l d k):AF Tryz.prog 108 [Bn l,.int o,.int (d:Int),.int (k:Int)] (.lit (Ht [.one .i,.one .i] (Ajv l o d k))):=Bv (Aed l o d k h0)
theorem Acn (s:Sg):AF Tryz.prog 107 [Ef s] (.agg [Bn s.x,Bn s.y,Bn s.z]):=by
 refine Be func107 rfl λB D0 hA0=>?_
 exact Ab 19 (Cu)
theorem Adh (s:Sg) (d:Nat) (k:Nat) (h0:cA s.x d k/\cA s.y d k/\cA s.z d k):∃r,Gm [.agg [.i,.i,.i,.i,.i,.i]] r/\AF Tryz.prog 86 [Ef s,.int (d:Int),.int (k:Int)] r:=by
 refine Cd func86 rfl ?_
 exact Ae 16 (gs (Aw (Acn s) ·) (Ae 4 (gs (vul 3 ·) (Ae 14 (gs (Bi (Bn s.x) .none (Hy 158 (.tmp 12) (.tmp 13) κ underlying158 1 sizeOf58 0 false isAgg58 [Bn s.x,Bn s.y,Bn s.z] 0 κ κ ω δ β δ (Bn s.x) κ) ·) (Ae 12 (Eh (bI s.x s.o d k h0.1) λv1 hv1=>(gs (Aw hv1 ·) (Ae 3 (gs (Bi (.ptr 2 0) .none (Ao 99 (.tmp 7) (.tmp 18) κ underlying99 2 0 1 0 0 κ κ sizeOf3 δ ω δ) ·) (Ae 1 (gs (Bi (.ptr 3 0) .none (Ao 99 (.tmp 8) (.tmp 19) κ underlying99 3 0 1 0 0 κ κ sizeOf3 δ ω δ) ·) (Ae 23 (gs (Bi (Bn s.y) .none (Hy 158 (.tmp 12) (.tmp 13) κ underlying158 1 sizeOf58 1 false isAgg58 [Bn s.x,Bn s.y,Bn s.z] 1 κ κ ω δ β δ (Bn s.y) κ) ·) (Ae 12 (Eh (bI s.y s.o d k h0.2.1) λv2 hv2=>(gs (Aw hv2 ·) (Ae 3 (gs (Bi (.ptr 2 1) .none (Ao 99 (.tmp 7) (.tmp 18) κ underlying99 2 0 1 1 1 κ κ sizeOf3 δ ω δ) ·) (Ae 1 (gs (Bi (.ptr 3 1) .none (Ao 99 (.tmp 8) (.tmp 19) κ underlying99 3 0 1 1 1 κ κ sizeOf3 δ ω δ) ·) (Ae 23 (gs (Bi (Bn s.z) .none (Hy 158 (.tmp 12) (.tmp 13) κ underlying158 1 sizeOf58 2 false isAgg58 [Bn s.x,Bn s.y,Bn s.z] 2 κ κ ω δ β δ (Bn s.z) κ) ·) (Ae 12 (Eh (bI s.z s.o d k h0.2.2) λv3 hv3=>(gs (Aw hv3 ·) (Ae 3 (gs (Bi (.ptr 2 2) .none (Ao 99 (.tmp 7) (.tmp 18) κ underlying99 2 0 1 2 2 κ κ sizeOf3 δ ω δ) ·) (Ae 1 (gs (Bi (.ptr 3 2) .none (Ao 99 (.tmp 8) (.tmp 19) κ underlying99 3 0 1 2 2 κ κ sizeOf3 δ ω δ) ·) (Ae 23 (gs (Bi (.ptr 2 0) .none (Ao 99 (.tmp 7) (.const (.int .i64 0)) κ underlying99 2 0 1 0 0 κ κ sizeOf3 δ ω δ) ·) (Ae 1 (gs (Bi (.ptr 2 1) .none (Ao 99 (.tmp 7) (.const (.int .i64 1)) κ underlying99 2 0 1 1 1 κ κ sizeOf3 δ ω δ) ·) (Ae 1 (gs (Bi (.ptr 2 2) .none (Ao 99 (.tmp 7) (.const (.int .i64 2)) κ underlying99 2 0 1 2 2 κ κ sizeOf3 δ ω δ) ·) (Ae 2 (gs (Bi (.ptr 3 0) .none (Ao 99 (.tmp 8) (.const (.int .i64 0)) κ underlying99 3 0 1 0 0 κ κ sizeOf3 δ ω δ) ·) (Ae 1 (gs (Bi (.ptr 3 1) .none (Ao 99 (.tmp 8) (.const (.int .i64 1)) κ underlying99 3 0 1 1 1 κ κ sizeOf3 δ ω δ) ·) (Ae 1 (gs (Bi (.ptr 3 2) .none (Ao 99 (.tmp 8) (.const (.int .i64 2)) κ underlying99 3 0 1 2 2 κ κ sizeOf3 δ ω δ) ·) (Ae 7 (Bl))))))))))))))))))))))))))))))))))))))))))))
noncomputable def AiT (s:Sg) (d:Nat) (k:Nat):Value:=Kp 86 [.agg [.i,.i,.i,.i,.i,.i]] [Ef s,.int (d:Int),.int (k:Int)]
theorem Acg (s:Sg) (d:Nat) (k:Nat) (h0:cA s.x d k/\cA s.y d k/\cA s.z d k):AF Tryz.prog 86 [Ef s,.int (d:Int),.int (k:Int)] (.lit (Ht [.agg [.i,.i,.i,.i,.i,.i]] (AiT s d k))):=Bv (Adh s d k h0)
structure Bx where
 lo:V3
 hi:V3
abbrev bxV (b:Bx):Value:= .agg #[.int .i64 b.lo.x,.int .i64 b.lo.y,.int .i64 b.lo.z,.int .i64 b.hi.x,.int .i64 b.hi.y,.int .i64 b.hi.z]
abbrev bxA (b:Bx):AV:= .lit (bxV b)
def Fr:Prop:=∀(f:Ja) (a b:V3),Ty f->∃r,Gm [.one .b,.one .i] r/\AF Tryz.prog 111 [Rp f,Bs a,Bs b] r
noncomputable def Aju (f:Ja) (a b:V3):Value:=Kp 111 [.one .b,.one .i] [Rp f,Bs a,Bs b]
theorem Wa (f:Ja) (a b:V3) (h:Fr/\Ty f):AF Tryz.prog 111 [Rp f,Bs a,Bs b] (.lit (Ht [.one .b,.one .i] (Aju f a b))):=Bv (h.1 f a b h.2)
theorem Agt (b:Bx) (v:V3):∃r,Gm [.one .b] r/\AF Tryz.prog 109 [bxA b,Bs v] r:=by
 refine Cd func109 rfl ?_
 refine Ae 16 (Ff 11 ?_ ?_)
 refine Ae 8 (Ff 19 ?_ ?_)
 refine Ae 8 (Ff 27 ?_ ?_)
 exact Ae 11 (Bl)
 exact Ae 11 (Bl)
 exact Ae 19 (Bl)
 exact Ae 27 (Bl)
noncomputable def Ak0 (b:Bx) (v:V3):Value:=Kp 109 [.one .b] [bxA b,Bs v]
theorem AfS (b:Bx) (v:V3):AF Tryz.prog 109 [bxA b,Bs v] (.lit (Ht [.one .b] (Ak0 b v))):=Bv (Agt b v)
theorem tG (l:Vs) (b:Bx) (h0:l.n<=64):∃r,Gm [.one .b] r/\AF Tryz.prog 49 [Dj l,.lit (.func (.func 109) #[bxV b] #[])] r:=by
 refine Cd func49 rfl ?_
 refine Ae 9 (mH func78 (Ae 14 (Vy [0,1,7,8] (λm s=>∃q,m=l.n-q/\(q<=l.n)/\s=⟨[(0,Dj l),(1,.lit (.func (.func 109) #[.agg #[.int .i64 b.lo.x,.int .i64 b.lo.y,.int .i64 b.lo.z,.int .i64 b.hi.x,.int .i64 b.hi.y,.int .i64 b.hi.z]] #[])),(7,.int (l.n:Int)),(8,.int (q:Int))],[],0,19⟩) (l.n-0) ⟨0,rfl,Nat.zero_le _,κ⟩ ?_)))
 rintro _ _ ⟨q,rfl,hF,rfl⟩ hJ1
 refine Ae 6 (Jf 9 ((q:Int)<(l.n:Int)) (λhx2 hx2d=>?_) (λhx2 hx2d=>?_))
 refine Ae 16 (gs (Iz q l.n ·) (Ae 1 (Eh (AfS b (l.f q)) λv3 hv3=>(gs (vcm (b:= .agg #[.int .i64 b.lo.x,.int .i64 b.lo.y,.int .i64 b.lo.z,.int .i64 b.hi.x,.int .i64 b.hi.y,.int .i64 b.hi.z]) hv3 ·) (Ae 2 (Ff 16 ?_ ?_))))))
 exact Ae 13 (Kl (Ae 5 (Bl)))
 exact Ae 5 (gs (Dm ((q:Int)+1) ((q+1:Nat):Int) ·) (Ae 2 (qS [0,1,7,8] (hJ1 _ _ (by omega:l.n-(q+1)<l.n-q) ⟨q+1,rfl,ω,rfl⟩))))
 exact Ae 12 (Kl (Ae 5 (Bl)))
noncomputable def AdX (l:Vs) (b:Bx):Value:=Kp 49 [.one .b] [Dj l,.lit (.func (.func 109) #[bxV b] #[])]
theorem rQ (l:Vs) (b:Bx) (h0:l.n<=64):AF Tryz.prog 49 [Dj l,.lit (.func (.func 109) #[bxV b] #[])] (.lit (Ht [.one .b] (AdX l b))):=Bv (tG l b h0)
theorem rN (b:Bx):AF Tryz.prog 110 [bxA b] (.lit (.agg #[.int .i64 b.lo.x,.int .i64 b.lo.y,.int .i64 b.lo.z,.int .i64 b.hi.x,.int .i64 b.lo.y,.int .i64 b.lo.z,.int .i64 b.hi.x,.int .i64 b.hi.y,.int .i64 b.lo.z,.int .i64 b.lo.x,.int .i64 b.hi.y,.int .i64 b.lo.z])):=by
 refine Be func110 rfl λB D0 hA0=>?_
 exact Ab 7 (Dg [] [2,3,4] trivial (Ab 30 (Cu)))
theorem Aay (b:Bx) (f:Ja) (h0:Fr/\Ty f):∃r,Gm [.one .b] r/\AF Tryz.prog 87 [bxA b,Rp f] r:=by
 have hn8:=h0.2.1
 have hn9:=h0.2.2.1
 refine Cd func87 rfl ?_
 refine Ae 17 (Ff 17 ?_ ?_)
 exact Ae 17 (Bl)
 refine Ae 9 (Ff 24 ?_ ?_)
 exact Ae 8 (Bl)
 refine Ae 13 (Vy [2,3,26,27,28] (λm s=>∃q,m=f.hn-q/\(q<=f.hn)/\s=⟨[(2,.ptr 0 0),(3,.ptr 1 0),(26,hsA f),(27,.int (f.hn:Int)),(28,.int (q:Int))],[(0,.box 153 [.int b.lo.x,.int b.lo.y,.int b.lo.z,.int b.hi.x,.int b.hi.y,.int b.hi.z]),(1,.box 33 [Dj f.o,hsA f,.int f.low,.int f.high])],2,58⟩) (f.hn-0) ⟨0,rfl,Nat.zero_le _,κ⟩ ?_)
 rintro _ _ ⟨q,rfl,hF,rfl⟩ hJ1
 have hnq:=h0.2.2.2 q
 refine Ae 6 (Jf 29 ((q:Int)<(f.hn:Int)) (λhx2 hx2d=>?_) (λhx2 hx2d=>?_))
 refine Ae 7 (gs (Iz q f.hn ·) (Ae 8 (gs (Mm (.func (.func 109) #[.agg #[.int .i64 b.lo.x,.int .i64 b.lo.y,.int .i64 b.lo.z,.int .i64 b.hi.x,.int .i64 b.hi.y,.int .i64 b.hi.z]] #[]) (.func (.func 109) #[.agg #[.int .i64 b.lo.x,.int .i64 b.lo.y,.int .i64 b.lo.z,.int .i64 b.hi.x,.int .i64 b.hi.y,.int .i64 b.hi.z]] #[]) ·) (Eh (rQ (f.h q) b ω) λv3 hv3=>(gs (Aw hv3 ·) (Ae 2 (Ff 35 ?_ ?_)))))))
 exact Ae 12 (Bl)
 exact Ae 5 (gs (Dm ((q:Int)+1) ((q+1:Nat):Int) ·) (Ae 2 (qS [2,3,26,27,28] (hJ1 _ _ (by omega:f.hn-(q+1)<f.hn-q) ⟨q+1,rfl,ω,rfl⟩))))
 refine Ae 9 (gs (Aw (rN b) ·) (Ae 11 (gs (vul 4 ·) (Ae 18 (Eh (Wa f b.lo (⟨b.hi.x,b.lo.y,b.lo.z⟩) h0) λv4 hv4=>(gs (Dg [(2,.ptr 2 0,.none),(7,.ptr 2 3,.none),(9,_,.none)] [3,7,9,39] ⟨As (Ao 176 (.tmp 7) (.tmp 44) κ underlying176 2 0 3 0 0 κ κ sizeOf62 δ ω δ),As (Ao 176 (.tmp 7) (.tmp 49) κ underlying176 2 0 3 1 1 κ κ sizeOf62 δ ω δ),Bu hv4,trivial⟩ ·) (Ae 7 (Ff 56 ?_ ?_))))))))
 exact Ae 12 (Bl)
 refine Ae 27 (Eh (Wa f (⟨b.hi.x,b.lo.y,b.lo.z⟩) (⟨b.hi.x,b.hi.y,b.lo.z⟩) h0) λv5 hv5=>(gs (Dg [(2,.ptr 2 3,.none),(7,.ptr 2 6,.none),(9,_,.none)] [3,7,9,39] ⟨As (Ao 176 (.tmp 7) (.tmp 44) κ underlying176 2 0 3 1 1 κ κ sizeOf62 δ ω δ),As (Ao 176 (.tmp 7) (.tmp 49) κ underlying176 2 0 3 2 2 κ κ sizeOf62 δ ω δ),Bu hv5,trivial⟩ ·) (Ae 7 (Ff 56 ?_ ?_))))
 exact Ae 12 (Bl)
 refine Ae 27 (Eh (Wa f (⟨b.hi.x,b.hi.y,b.lo.z⟩) (⟨b.lo.x,b.hi.y,b.lo.z⟩) h0) λv6 hv6=>(gs (Dg [(2,.ptr 2 6,.none),(7,.ptr 2 9,.none),(9,_,.none)] [3,7,9,39] ⟨As (Ao 176 (.tmp 7) (.tmp 44) κ underlying176 2 0 3 2 2 κ κ sizeOf62 δ ω δ),As (Ao 176 (.tmp 7) (.tmp 49) κ underlying176 2 0 3 3 3 κ κ sizeOf62 δ ω δ),Bu hv6,trivial⟩ ·) (Ae 7 (Ff 56 ?_ ?_))))
 exact Ae 12 (Bl)
 refine Ae 27 (Eh (Wa f (⟨b.lo.x,b.hi.y,b.lo.z⟩) b.lo h0) λv7 hv7=>(gs (Dg [(2,.ptr 2 9,.none),(7,.ptr 2 0,.none),(9,_,.none)] [3,7,9,39] ⟨As (Ao 176 (.tmp 7) (.tmp 44) κ underlying176 2 0 3 3 3 κ κ sizeOf62 δ ω δ),As (Ao 176 (.tmp 7) (.tmp 49) κ underlying176 2 0 3 0 0 κ κ sizeOf62 δ ω δ),Bu hv7,trivial⟩ ·) (Ae 7 (Ff 56 ?_ ?_))))
 exact Ae 12 (Bl)
 exact Ae 27 (Bl)
noncomputable def AgN (b:Bx) (f:Ja):Value:=Kp 87 [.one .b] [bxA b,Rp f]
theorem yZ (b:Bx) (f:Ja) (h0:Fr/\Ty f):AF Tryz.prog 87 [bxA b,Rp f] (.lit (Ht [.one .b] (AgN b f))):=Bv (Aay b f h0)
def Aiv:Nat->Nat
 |0=>0
 |_+1=>1
def Aiw (g:FuncId) (x y:AV):Nat->AV
 |0=> .top
 |m+1=> .fn g [x,y,.elt (Aiv m) λ_=>Aiw g x y m]
abbrev qA (g:FuncId) (x y:AV) (m:Nat):AV:= .elt (Aiv m) λ_=>Aiw g x y m
theorem Ajm {E:Bc} {g:FuncId} {l:List AV} {v:Value} (h:VR E (.fn g l) v):∃vs,v= .func (.func g) #[] vs/\vs.size=l.length/\∀i,i<l.length->VR E (l.getD i .top) (vs.getD i undef):=by
 cases h with
 |fn _ _ _ vs hn h=>exact⟨vs,rfl,hn,h⟩
theorem AeI {B:Nat} {D0 E:Bc} {c:Nat->Option Bo} (hh:HR B D0 E c) {id:Nat} {t:TypeId} {g:FuncId} {x y:AV} (hx:x.flat=true) (hy:y.flat=true) (hc:c id=some (.box t [.fn g [x,y,.ptr id 0]])):∀(m:Nat) (v:Value),VR E (.ptr id 0) v->VR (E.fr id).fz (qA g x y m) v:=by
 obtain⟨arr,hb,hvs⟩:=hh.box hc
 obtain⟨vs,e1,e2,e3⟩:=Ajm (hvs.2 0)
 have h0:=e3 0 (by simp)
 have h1:=e3 1 (by simp)
 have h2:=e3 2 (by simp)
 intro m
 induction m with
 |zero=>
  intro v hv
  cases hv with
  |ptr _ _ _ hA=>exact .elt _ _ _ _ _ (λ_=>undef) (.inr rfl) (λj hj=>absurd hj (Nat.not_lt_zero j)) λj hj=>absurd hj (Nat.not_lt_zero j)
 |succ m ih=>
  intro v hv
  have hsz:0<arr.size:=by rw[hvs.1];simp
  cases hv with
  |ptr _ _ _ hA=>
   refine .elt _ _ _ _ _ (λj=>arr.getD j undef) (.inr rfl) (λj hj=>?_) λj hj=>?_
   obtain rfl:j=0:=by have:j<1:=hj;omega
   exact Jl hb hsz
   obtain rfl:j=0:=by have:j<1:=hj;omega
   show VR _ (.fn g [x,y,qA g x y m]) (arr.getD 0 undef)
   rw[e1]
   refine .fn _ _ _ _ (by rw[e2];rfl) λi hi=>?_
   match i,hi with
   |0,_=>exact(h0.flat hx).up (E.le_fr id).fz
   |1,_=>exact(h1.flat hy).up (E.le_fr id).fz
   |2,_=>exact ih _ h2
def frzP (id:Nat) (V:AV):AV->AV
 | .ptr id' off=>if id'=id then (if off=0 then V else .top) else .ptr id' off
 |x=>x
def Cl.frzP (c:Cl) (id:Nat) (V:AV):Cl:=⟨c.m,c.k,⟨mapT (YtikinphpaiajfaaGreat.frzP id V) c.s.t,(Fy c.s.h id).map λp=>(p.1,p.2.mapB (YtikinphpaiajfaaGreat.frzP id V)),c.s.nx,c.s.n⟩⟩
theorem AlE {P:Program} {R:Option Nat} {B:Nat} {D0:Bc} {Q:Exit->St->Prop} {c:Cl} (id:Nat) (g:FuncId) (x y:AV) (m:Nat) (hk:Go P R B D0 Q (c.frzP id (qA g x y m))) (hc:Av c.s.h id=some (.box (c.boxT id) [.fn g [x,y,.ptr id 0]]):=by kernel_rfl) (hf:(x.flat&&y.flat)=true:=by kernel_rfl):Go P R B D0 Q c:=by
 obtain⟨hx,hy⟩:=Bool.and_eq_true_iff.1 hf
 refine Gs _ (λE a hs=>Sz id (YtikinphpaiajfaaGreat.frzP id (qA g x y m)) _ rfl hc (λE z v hh hv=>?_) E a hs) hk
 have up:=hv.up (E.le_fr id)
 unfold YtikinphpaiajfaaGreat.frzP
 split
 rename_i id' off
 by_cases e1:id'=id
 subst e1
 rw[if_pos rfl]
 by_cases e2:off=0
 subst e2
 rw[if_pos rfl]
 exact(AeI hh hx hy hc m v hv).up (Bc.fz_le _)
 rw[if_neg e2];exact .top _ _
 rw[if_neg e1];exact up
 exact up
abbrev AjK (s:Sg):AV:= .elt 6 λxi=>[AV.int s.f,AV.int s.t,AV.int s.o,Bn s.x,Bn s.y,Bn s.z].getD (0+xi) .top
abbrev fnE (f:Ja):AV:= .elt 4 λxi=>[Dj f.o,hsA f,AV.int f.low,AV.int f.high].getD (0+xi) .top
def SB (s:Sg):Prop:=∀d k,d<=8->k<2^d->cA s.x d k/\cA s.y d k/\cA s.z d k
theorem Akv {s:Sg} (h:bS s) (ho:Jb s):SB s:=λd k hd hk=>
 ⟨⟨by have:=ho.2.1.1;omega,ho.2.1.2.1,h.x,hd,hk⟩,⟨by have:=ho.2.2.1.1;omega,ho.2.2.1.2.1,h.y,hd,hk⟩,⟨by have:=ho.2.2.2.1.1;omega,ho.2.2.2.1.2.1,h.z,hd,hk⟩⟩
theorem AkS {f:FuncId} {args:List AV} (h:∃r,Gm [.one .b] r/\AF Tryz.prog f args r):∃b:Bool,AF Tryz.prog f args (.bool b):=⟨_,Bv h⟩
abbrev prt (s:Sg) (f:Ja):Nat->AV:=qA 85 (AjK s) (fnE f)
theorem Aac (s:Sg) (f:Ja) (h0:Fr/\Ty f) (hs:SB s):∀(m d k:Nat),d<=8->8-d<m->k<2^d->∃b:Bool,AF Tryz.prog 85 [.int (d:Int),.int (k:Int),AjK s,fnE f,prt s f m] (.bool b):=by
 intro m
 induction m with
 |zero=>intro d k _ h;exact absurd h (Nat.not_lt_zero _)
 |succ m ih=>
  intro d k hd hm hk
  have hp:=AkI hd
  have hbx:=hs d k hd hk
  refine AkS (Cd func85 rfl ?_)
  refine Ae 6 (Eh (Acg s d k hbx) λv1 hv1=>(Eh (yZ (⟨⟨(gI (gT v1 0)),(gI (gT v1 1)),(gI (gT v1 2))⟩,⟨(gI (gT v1 3)),(gI (gT v1 4)),(gI (gT v1 5))⟩⟩) f h0) λv2 hv2=>?_))
  refine Ct (gB v2) (λhx3=>?_) (λhx3=>?_)
  exact gs (Dg [(3,_,.none),(5,.bool true,.none)] [7] ⟨Bu hv1,Vx hx3 (Bu hv2),trivial⟩ ·) (Ae 2 (Bl))
  refine vsp ((d:Int)<8) (λhx4 hx4d=>?_) (λhx4 hx4d=>?_)
  refine Exists.elim (ih (d+1) (2*k) ω ω (by rw[Nat.pow_succ];omega)) λv5 hv5=>?_
  refine Ct v5 (λhx6=>?_) (λhx6=>?_)
  exact Exists.elim (ih (d+1) (2*k+1) ω ω (by rw[Nat.pow_succ];omega)) λv7 hv7=>(gs (Dg [(3,_,.none),(5,.bool false,.none),(8,.bool true,.none),(12,.int ((d+1:Nat):Int),.none),(14,.int ((2*k:Nat):Int),.none),(15,.bool true,.none),(20,.int ((d+1:Nat):Int),.none),(22,.int ((2*k:Nat):Int),.none),(23,.int ((2*k+1:Nat):Int),.none),(24,_,.none)] [7] ⟨Bu hv1,Vx hx3 (Bu hv2),xH hx4,As (Bb (v:= .int .i64 (IntKind.wrap .i64 ((d:Int)+1))) (v':= .int .i64 ((d+1:Nat):Int)) _ κ rfl κ (λw=>by kernel_rfl) (congrArg (Value.int .i64) ((IntWalk.i64_in _ ω).trans ω))),As (Bb (v:= .int .i64 (IntKind.wrap .i64 (2*(k:Int)))) (v':= .int .i64 ((2*k:Nat):Int)) _ κ rfl κ (λw=>by kernel_rfl) (congrArg (Value.int .i64) ((IntWalk.i64_in _ ω).trans ω))),Vx hx6 (sQ hv5),As (Bb (v:= .int .i64 (IntKind.wrap .i64 ((d:Int)+1))) (v':= .int .i64 ((d+1:Nat):Int)) _ κ rfl κ (λw=>by kernel_rfl) (congrArg (Value.int .i64) ((IntWalk.i64_in _ ω).trans ω))),As (Bb (v:= .int .i64 (IntKind.wrap .i64 (2*(k:Int)))) (v':= .int .i64 ((2*k:Nat):Int)) _ κ rfl κ (λw=>by kernel_rfl) (congrArg (Value.int .i64) ((IntWalk.i64_in _ ω).trans ω))),As (Bb (v:= .int .i64 (IntKind.wrap .i64 (((2*k:Nat):Int)+1))) (v':= .int .i64 ((2*k+1:Nat):Int)) _ κ rfl κ (λw=>by kernel_rfl) (congrArg (Value.int .i64) ((IntWalk.i64_in _ ω).trans ω))),sQ hv7,trivial⟩ ·) (Ae 2 (Bl)))
  exact gs (Dg [(3,_,.none),(5,.bool false,.none),(8,.bool true,.none),(12,.int ((d+1:Nat):Int),.none),(14,.int ((2*k:Nat):Int),.none),(15,.bool false,.none)] [7] ⟨Bu hv1,Vx hx3 (Bu hv2),xH hx4,As (Bb (v:= .int .i64 (IntKind.wrap .i64 ((d:Int)+1))) (v':= .int .i64 ((d+1:Nat):Int)) _ κ rfl κ (λw=>by kernel_rfl) (congrArg (Value.int .i64) ((IntWalk.i64_in _ ω).trans ω))),As (Bb (v:= .int .i64 (IntKind.wrap .i64 (2*(k:Int)))) (v':= .int .i64 ((2*k:Nat):Int)) _ κ rfl κ (λw=>by kernel_rfl) (congrArg (Value.int .i64) ((IntWalk.i64_in _ ω).trans ω))),Vx hx6 (sQ hv5),trivial⟩ ·) (Ae 2 (Bl))
  exact gs (Dg [(3,_,.none),(5,.bool false,.none),(8,.bool false,.none)] [7] ⟨Bu hv1,Vx hx3 (Bu hv2),xH hx4,trivial⟩ ·) (Ae 2 (Bl))
theorem Aa0 (f:Ja) (s:Sg) (h0:(Fr/\Ty f)/\SB s):∃r,Gm [.one .b] r/\AF Tryz.prog 63 [Rp f,Ef s] r:=by
 refine Cd func63 rfl ?_
 exact Ae 12 (gs (rA 0 ·) (gs (rA 1 ·) (Ae 6 (gs (AlE 2 85 (AjK s) (fnE f) 10 ·) (Ae 3 (Exists.elim (Aac s f h0.1 h0.2 9 0 0 δ δ δ) λv1 hv1=>(gs (AbF hv1 ·) (Ae 4 (Bl)))))))))
noncomputable def AgP (f:Ja) (s:Sg):Value:=Kp 63 [.one .b] [Rp f,Ef s]
theorem zD (f:Ja) (s:Sg) (h0:(Fr/\Ty f)/\SB s):AF Tryz.prog 63 [Rp f,Ef s] (.lit (Ht [.one .b] (AgP f s))):=Bv (Aa0 f s h0)
theorem tJ (s:Sg) (f:Ja) (h0:(Fr/\Ty f)/\SB s):∃r,Gm [.one .b] r/\AF Tryz.prog 62 [Ef s,fnE f] r:=by
 refine Cd func62 rfl ?_
 exact Ae 10 (Eh (zD f s h0) λv1 hv1=>(gs (Aw hv1 ·) (Ae 5 (Bl))))
noncomputable def AdZ (s:Sg) (f:Ja):Value:=Kp 62 [.one .b] [Ef s,fnE f]
theorem rR (s:Sg) (f:Ja) (h0:(Fr/\Ty f)/\SB s):AF Tryz.prog 62 [Ef s,fnE f] (.lit (Ht [.one .b] (AdZ s f))):=Bv (tJ s f h0)
theorem Aa2 (f:Ja) (l:List Sg) (h0:Fr/\Ty f/\Bj l):∃r,Gm [.one .i,.one .b,.one .i] r/\AF Tryz.prog 34 [Rp f,Bq l] r:=by
 have hfok:=h0.2.1
 have hl7:=h0.2.2.1
 refine Cd func34 rfl ?_
 refine Ae 12 (gs (Aw (Ir f hfok) ·) (Ae 2 (Ff 11 ?_ ?_)))
 exact Ae 16 (Bl)
 refine Ae 1 (gs (Aw (Lz l h0.2.2) ·) (Ae 4 (Afk 15 (bP (Er l)) (λhx2=>?_) (λhx2=>?_))))
 refine Ae 3 (gs (rA 0 ·) ?_)
 have hok:=Fx hx2
 have hl6:=hok.2.2
 refine Ae 4 (mH func61 (Ae 14 (Vy [0,1,7,8] (λm s=>∃q,m=l.length-q/\(q<=l.length)/\s=⟨[(0,Bq l),(1,.fn 62 [fnE f]),(7,.int ((l).length:Int)),(8,.int (q:Int))],[],1,19⟩) (l.length-0) ⟨0,rfl,Nat.zero_le _,κ⟩ ?_)))
 rintro _ _ ⟨q,rfl,hF,rfl⟩ hJ1
 refine Ae 6 (Jf 9 ((q:Int)<((l).length:Int)) (λhx4 hx4d=>?_) (λhx4 hx4d=>?_))
 refine Ae 16 (gs (Iz q ((l).length) ·) (Ae 1 (Eh (rR ((l).getD q Sg.none) f ⟨⟨h0.1,h0.2.1⟩,Akv (h0.2.2.2 _) (hok.1 _ ω).1⟩) λv5 hv5=>(gs (AbF hv5 ·) (Ae 2 (Ff 16 ?_ ?_))))))
 exact Ae 13 (Kl (Ae 6 (gs (Bi (.int (max 0 (q:Int))) .none (Of (.const (.int .i64 0)) (.tmp 19) #[3,3] κ 0 (q:Int) κ κ) ·) (Ae 8 (Bl)))))
 exact Ae 5 (gs (Dm ((q:Int)+1) ((q+1:Nat):Int) ·) (Ae 2 (qS [0,1,7,8] (hJ1 _ _ (by omega:l.length-(q+1)<l.length-q) ⟨q+1,rfl,ω,rfl⟩))))
 exact Ae 12 (Kl (Ae 6 (gs (Bi (.int (max 0 (-1))) .none (Of (.const (.int .i64 0)) (.tmp 19) #[3,3] κ 0 (-1) κ κ) ·) (Ae 8 (Bl)))))
 exact Ae 10 (Bl)
noncomputable def AgQ (f:Ja) (l:List Sg):Value:=Kp 34 [.one .i,.one .b,.one .i] [Rp f,Bq l]
theorem zE (f:Ja) (l:List Sg) (h0:Fr/\Ty f/\Bj l):AF Tryz.prog 34 [Rp f,Bq l] (.lit (Ht [.one .i,.one .b,.one .i] (AgQ f l))):=Bv (Aa2 f l h0)
theorem tK (f:Ja) (l:List Sg) (h0:Fr/\Ty f/\Bj l):∃r,Gm [.one .b,.one .i] r/\AF Tryz.prog 14 [Rp f,Bq l] r:=by
 refine Cd func14 rfl ?_
 refine Ae 11 (Eh (zE f l h0) λv1 hv1=>(gs (Aw hv1 ·) (Ae 14 (Ff 18 ?_ ?_))))
 exact Ae 9 (Bl)
 exact Ae 9 (Bl)
noncomputable def Ge (f:Ja) (l:List Sg):Value:=Kp 14 [.one .b,.one .i] [Rp f,Bq l]
theorem Uy (f:Ja) (l:List Sg) (h0:Fr/\Ty f/\Bj l):AF Tryz.prog 14 [Rp f,Bq l] (.lit (Ht [.one .b,.one .i] (Ge f l))):=Bv (tK f l h0)
end Go.Proofs.YtikinphpaiajfaaGreat
namespace Go.Proofs.YtikinphpaiajfaaGreat
open Go.RowKit
theorem Bj.law (a s:V3) (g ac dn t u:Int):Bj (dI a s g ac dn t u).1:=by
 have key:∀(st:List Sg×Int) (off low:V3) (t dn u:Int),Bj st.1->Bj (fA st off low t dn u).1:=λst off low t dn u h=>by
  unfold fA
  split
  exact Wi (Wi h (Dp _ _ _ _ _)) (Dp _ _ _ _ _)
  exact Wi h (Dp _ _ _ _ _)
 unfold dI
 split
 exact key _ _ _ _ _ _ Bj.nil
 exact key _ _ _ _ _ _ (Dp _ _ _ _ _)
noncomputable def oC (p:Pr) (d:De) (c:Cs) (side:Int) (f:Ja):Bool:=if bP (Jd p d c side)=true then (if (Jn p d c side).2=0 then gB (gT (Ge f (Jn p d c side).1) 0) else false) else false
noncomputable def sP (p:Pr) (d:De) (c:Cs) (side:Int) (f:Ja):Int:=if bP (Jd p d c side)=true then (if (Jn p d c side).2=0 then gI (gT (Ge f (Jn p d c side).1) 1) else (Jn p d c side).2) else 9
theorem aP {p:Pr} {d:De} {c:Cs} {side:Int} (f:Ja) (h:bP (Jd p d c side)=false):oC p d c side f=false/\sP p d c side f=9:=by
 unfold oC sP
 rw[h]
 exact⟨rfl,rfl⟩
theorem jX {p:Pr} {d:De} {c:Cs} {side:Int} (f:Ja) (h:bP (Jd p d c side)=true) (he:¬(Jn p d c side).2=0):oC p d c side f=false/\sP p d c side f=(Jn p d c side).2:=by
 unfold oC sP
 rw[if_pos h,if_pos h,if_neg he,if_neg he]
 exact⟨rfl,rfl⟩
theorem oD {p:Pr} {d:De} {c:Cs} {side:Int} (f:Ja) (h:bP (Jd p d c side)=true) (he:(Jn p d c side).2=0):oC p d c side f=gB (gT (Ge f (Jn p d c side).1) 0)/\sP p d c side f=gI (gT (Ge f (Jn p d c side).1) 1):=by
 unfold oC sP
 rw[if_pos h,if_pos h,if_pos he,if_pos he]
 exact⟨rfl,rfl⟩
theorem Zc (p:Pr) (d:De) (c:Cs) (side:Int) (f:Ja) (hp:Lf p) (hd:Ru d) (hcs:Sh c) (hsd:Cc side) (hE:Fr) (hfok:Ty f) (hc:Ej p c) (ho:Ev d) (hv:gB (Gt f)=true):AF Tryz.prog 8 [Hc p,Jt d,Nt c,.int side,Rp f] (.lit (.tuple #[.bool (oC p d c side f),.int .i64 (sP p d c side f)])):=by
 refine Be Tryz.func8 rfl λB D0 hA0=>?_
 refine Ab 15 (Aw (Ey p c hp hcs) (Ab 2 (Dy 18 (!bP (Ej p c)) false (by rw[(Cn hc)];rfl) (Ab 1 (Aw (Fw d hd) (Ab 3 (Dy 23 (!bP (Ev d)) false (by rw[(Cn ho)];rfl) (Ab 1 (Aw (Ir f hfok) (Ab 4 (Dy 27 (!(gB (Gt f))) false (by rw[hv];rfl) (Ab 9 ?_))))))))))))
 refine Ct (bP (Jd p d c side)) (λhx1=>?_) (λhx1=>?_)
 ·
  refine Aw (Ac2 p d c side hp hd hcs hsd hc ho (Fx hx1)) (Ab 14 (Xy 37 ((Jn p d c side).2=0) (λhx2 hx2d=>?_) (λhx2 hx2d=>?_)))
  ·
   exact Ab 7 (Aw (Uy f ((Jn p d c side).1) ⟨hE,hfok,Bj.law _ _ _ _ _ _ _⟩) (Ab 7 (El (.lit (.tuple #[.bool (gB (gT (Ge f ((Jn p d c side).1)) 0)),.int .i64 (gI (gT (Ge f ((Jn p d c side).1)) 1))])) (by obtain⟨e1,e2⟩:=oD f hx1 (of_decide_eq_true hx2);rw[e1,e2]))))
  ·
   exact Ab 10 (El (.lit (.tuple #[.bool false,.int .i64 ((Jn p d c side).2)])) (by obtain⟨e1,e2⟩:=jX f hx1 (of_decide_eq_false hx2);rw[e1,e2]))
 ·
  exact Aw (nG p d c side hp hd hcs hsd hc ho (Qo hx1)) (Ab 24 (El (.lit (.tuple #[.bool false,.int .i64 9])) (by obtain⟨e1,e2⟩:=aP f hx1;rw[e1,e2])))
theorem Qe (p:Pr) (d:De) (c:Cs) (side:Int) (f:Ja) (hp:Lf p) (hd:Ru d) (hcs:Sh c) (_:Cc side) (_:Fr) (hfok:Ty f) (h:¬(Ej p c/\Ev d/\gB (Gt f)=true)):AF Tryz.prog 8 [Hc p,Jt d,Nt c,.int side,Rp f] (.lit (.tuple #[.bool false,.int .i64 2])):=by
 refine Be Tryz.func8 rfl λB D0 hA0=>?_
 refine Ab 15 (Aw (Ey p c hp hcs) (Ab 2 (Rx 18 (bP (Ej p c)) (λhx1=>?_) (λhx1=>?_))))
 ·
  refine Ab 1 (Aw (Fw d hd) (Ab 3 (Rx 23 (bP (Ev d)) (λhx2=>?_) (λhx2=>?_))))
  ·
   refine Ab 1 (Aw (Ir f hfok) (Ab 4 (Rx 27 (gB (Gt f)) (λhx3=>?_) (λhx3=>?_))))
   ·
    refine Ab 3 ?_
    exact absurd ⟨Fx hx1,Fx hx2,hx3⟩ h
   ·
    exact Ab 9 (Cu)
  ·
   exact Ab 15 (Cu)
 ·
  exact Ab 20 (Cu)
section
variable (p:Pr) (d:De) (c:Cs) (side:Int) (f:Ja) (hp:Lf p) (hd:Ru d) (hcs:Sh c) (hsd:Cc side) (hE:Fr) (hfok:Ty f) (hc:Ej p c) (ho:Ev d) (hv:gB (Gt f)=true)
include hp hd hcs hsd hE hfok hc ho hv
end
end Go.Proofs.YtikinphpaiajfaaGreat
namespace Go.Proofs.YtikinphpaiajfaaGreat
open Go.Proofs.Tryz
open Go.RowKit
noncomputable def xV (p:Pr) (d:De) (c:Cs) (f:Ja) (k:Int):Bool:=oC p d c k f&&decide (sP p d c k f=0)
noncomputable def Zz (g:Int->Bool) (i:Nat):Nat->Int
 |0=> -1
 |m+1=>if g (i:Int)=true then (i:Int) else Zz g (i+1) m
theorem Uc (g:Int->Bool) (i m:Nat):Zz g i (m+1)=if g (i:Int)=true then (i:Int) else Zz g (i+1) m:=rfl
theorem cU {g:Int->Bool}:∀(i n:Nat),(∀k,k<i->g (k:Int)=false)->Zz g 0 (i+n)=Zz g i n
 |0,n,_=>by rw[Nat.zero_add]
 |i+1,n,h=>by
  rw[show i+1+n=i+(n+1) by omega,cU i (n+1) λk hk=>h k ω]
  rw[Uc,if_neg (by rw[h i ω];decide)]
theorem Ajq {g:Int->Bool} {i n:Nat} (hi:i<n) (h:∀k,k<i->g (k:Int)=false) (hg:g (i:Int)=true):Zz g 0 n=(i:Int):=by
 have:=cU (g:=g) i (n-i) h
 rw[show i+(n-i)=n by omega,show n-i=(n-i-1)+1 by omega] at this
 rw[this]
 rw[Uc,if_pos hg]
theorem Ajr {g:Int->Bool} {n:Nat} (h:∀k,k<n->g (k:Int)=false):Zz g 0 n= -1:=by
 have:=cU (g:=g) n 0 h
 rw[Nat.add_zero] at this
 rw[this];rfl
noncomputable abbrev Kf (p:Pr) (d:De) (c:Cs) (f:Ja):Int:=Zz (xV p d c f) 0 d.sides.length
noncomputable def cT (n:Int):Int:=if n<0 then 0 else n
noncomputable def cS (n:Int):Int:=if n<0 then 9 else 0
theorem AdL {p:Pr} {d:De} {c:Cs} {f:Ja} {i:Nat} (hi:i<d.sides.length) (h:∀k,k<i->xV p d c f (k:Int)=false) (h1:oC p d c (i:Int) f=true) (h2:decide (sP p d c (i:Int) f=0)=true):AV.lit (.tuple #[.int .i64 (i:Int),.int .i64 0])= .lit (.tuple #[.int .i64 (cT (Kf p d c f)),.int .i64 (cS (Kf p d c f))]):=by
 have e:Kf p d c f=(i:Int):=Ajq hi h (by unfold xV;rw[h1,h2];rfl)
 rw[e,cT,cS,if_neg ω,if_neg ω]
theorem AdM {p:Pr} {d:De} {c:Cs} {f:Ja} (h:∀k,k<d.sides.length->xV p d c f (k:Int)=false):AV.lit (.tuple #[.int .i64 0,.int .i64 9])= .lit (.tuple #[.int .i64 (cT (Kf p d c f)),.int .i64 (cS (Kf p d c f))]):=by
 have e:Kf p d c f= -1:=Ajr h
 rw[e];rfl
theorem xX {g:Int->Bool} {i:Nat} (h:∀k,k<i->g (k:Int)=false) (hi:g (i:Int)=false):∀k,k<i+1->g (k:Int)=false:=λk hk=>(Nat.lt_or_ge k i).elim (h k) λg9=>by
 obtain rfl:k=i:=by omega
 exact hi
theorem Ae8 {p:Pr} {d:De} {c:Cs} {f:Ja} {k:Int} (h:oC p d c k f=false):xV p d c f k=false:=by unfold xV;rw[h];rfl
theorem AkF {p:Pr} {d:De} {c:Cs} {f:Ja} {k:Int} (h:decide (sP p d c k f=0)=false):xV p d c f k=false:=by unfold xV;rw[h,Bool.and_false]
theorem mW (p:Pr) (d:De) (c:Cs) (f:Ja) (hp:Lf p) (hd:Ru d) (hcs:Sh c) (hE:Fr) (hfok:Ty f) (hc:Ej p c) (ho:Ev d) (hv:gB (Gt f)=true):AF Tryz.prog 9 [Hc p,Jt d,Nt c,Rp f] (.lit (.tuple #[.int .i64 (cT (Kf p d c f)),.int .i64 (cS (Kf p d c f))])):=by
 have hd1:d.sides.length<=16:=ho.1.2.1
 refine Be func9 rfl λB D0 hA0=>?_
 refine Ab 15 (Aw (Ey p c hp hcs) (Ab 2 (Dy 15 (!bP (Ej p c)) false (by rw[(Cn hc)];rfl) (Ab 1 (Aw (Fw d hd) (Ab 3 (Dy 20 (!bP (Ev d)) false (by rw[(Cn ho)];rfl) (Ab 1 (Aw (Ir f hfok) (Ab 4 (Dy 24 (!(gB (Gt f))) false (by rw[hv];rfl) (Ab 10 (vH 6 func21 (λ_ hD1=>?_))))))))))))))
 refine Ab 16 (Ux (Ab 3 (vnm [8,9,29] ?_)))
 refine vrg 10 func44 (λsp2 sp2p sp2a sp2b _ hD3=>?_)
 refine Ab 9 (Vw [0,1,2,3,4,11,12] d.sides.length (λi=>∀k,k<i->xV p d c f (k:Int)=false) (λi=>⟨[(0,.yld 10),(1,.ptr 7 0),(2,.ptr 6 0),(3,.ptr 8 0),(4,.ptr 9 0),(11,.int (d.sides.length:Int)),(12,.int (i:Int))],[(0,.box 26 [Nf p.names,Ts p.homes,Lv p.acts]),(1,.box 28 [Km d.sides,.int d.across,.int d.down,.int d.ground]),(2,.box 30 [.int c.craft,.int c.act]),(3,.box 33 [Dj f.o,hsA f,.int f.low,.int f.high]),(4,.box 3 [.int 0]),(5,.box 38 [.int 0]),(6,.box 26 [Nf p.names,Ts p.homes,Lv p.acts]),(7,.box 28 [Km d.sides,.int d.across,.int d.down,.int d.ground]),(8,.box 30 [.int c.craft,.int c.act]),(9,.box 33 [Dj f.o,hsA f,.int f.low,.int f.high]),(10,.loop .ready none sp2 [(8,.ptr 4 0),(9,.ptr 5 0),(29,.fn 44 [.ptr 7 0,.ptr 6 0,.ptr 8 0,.ptr 9 0])] 32)],11,36⟩) (λk hk=>absurd hk (Nat.not_lt_zero k)) (λi hin hFi J1 hJ1=>?_))
 refine Ab 6 (He 13 ((i:Int)<(d.sides.length:Int)) (λhx4 hx4d=>?_) (λhx4 hx4d=>?_))
 ·
  refine Ab 18 (Aw (Zc p d c (i:Int) f hp hd hcs ω hE hfok hc ho hv) (Ab 12 (He 26 ((sP p d c (i:Int) f)=0) (λhx5 hx5d=>?_) (λhx5 hx5d=>?_))))
  ·
   refine Ab 3 (vsb 29 (oC p d c (i:Int) f) (λhx6=>?_) (λhx6=>?_))
   ·
    refine Ab 2 (vyl 11 sp2p sp2a sp2b (λ_ _ hD7 _=>?_))
    refine Ab 3 (vrb (Ab 10 (vre ?_)))
    refine Ab 10 (vrl ?_)
    exact Ab 3 (El (.lit (.tuple #[.int .i64 (i:Int),.int .i64 0])) (AdL ω hFi hx6 hx5))
   ·
    exact Ab 12 (Dm ((i:Int)+1) ((i+1:Nat):Int) (Ab 2 (eX [0,1,2,3,4,11,12] (hJ1 ω (xX hFi (Ae8 hx6))))))
  ·
   exact Ab 15 (Dm ((i:Int)+1) ((i+1:Nat):Int) (Ab 2 (eX [0,1,2,3,4,11,12] (hJ1 ω (xX hFi (AkF hx5))))))
 ·
  refine Ab 5 (vrl ?_)
  exact Ab 9 (El (.lit (.tuple #[.int .i64 0,.int .i64 9])) (AdM λk hk=>hFi k ω))
theorem Qf (p:Pr) (d:De) (c:Cs) (f:Ja) (hp:Lf p) (hd:Ru d) (hcs:Sh c) (_:Fr) (hfok:Ty f) (h:¬(Ej p c/\Ev d/\gB (Gt f)=true)):AF Tryz.prog 9 [Hc p,Jt d,Nt c,Rp f] (.lit (.tuple #[.int .i64 0,.int .i64 2])):=by
 refine Be func9 rfl λB D0 hA0=>?_
 refine Ab 15 (Aw (Ey p c hp hcs) (Ab 2 (Rx 15 (bP (Ej p c)) (λhx1=>?_) (λhx1=>?_))))
 ·
  refine Ab 1 (Aw (Fw d hd) (Ab 3 (Rx 20 (bP (Ev d)) (λhx2=>?_) (λhx2=>?_))))
  ·
   refine Ab 1 (Aw (Ir f hfok) (Ab 4 (Rx 24 (gB (Gt f)) (λhx3=>?_) (λhx3=>?_))))
   ·
    refine Ab 4 ?_
    exact absurd ⟨Fx hx1,Fx hx2,hx3⟩ h
   ·
    exact Ab 9 (Cu)
  ·
   exact Ab 15 (Cu)
 ·
  exact Ab 20 (Cu)
section
variable (p:Pr) (d:De) (c:Cs) (f:Ja) (hp:Lf p) (hd:Ru d) (hcs:Sh c) (hE:Fr) (hfok:Ty f) (hc:Ej p c) (ho:Ev d) (hv:gB (Gt f)=true)
include hp hd hcs hE hfok hc ho hv
end
theorem AgM {g:Int->Bool} {j n:Nat} (h1:1<=j) (h2:j<=n) (h:g ((j:Int)-1)=true):(j:Int)-1=Zz g (j-1) (n-(j-1)):=by
 rw[show n-(j-1)=(n-j)+1 by omega]
 rw[Uc,show ((j-1:Nat):Int)=(j:Int)-1 by omega,if_pos h]
theorem aV {g:Int->Bool} {j n:Nat} {x:Int} (h1:1<=j) (h2:j<=n) (h:g ((j:Int)-1)=false) (hx:x=Zz g j (n-j)):x=Zz g (j-1) (n-(j-1)):=by
 rw[show n-(j-1)=(n-j)+1 by omega]
 rw[Uc,show ((j-1:Nat):Int)=(j:Int)-1 by omega,if_neg (by rw[h];decide),show j-1+1=j by omega]
 exact hx
theorem Ae9 {p:Pr} {d:De} {c:Cs} {f:Ja} {k:Int} (h:bP (Jd p d c k)=false):xV p d c f k=false:=Ae8 (aP f h).1
theorem Ahh {p:Pr} {d:De} {c:Cs} {f:Ja} {k:Int} (h:bP (Jd p d c k)=true) (he:decide ((Jn p d c k).2=0)=false):xV p d c f k=false:=Ae8 (jX f h (of_decide_eq_false he)).1
theorem tZ {p:Pr} {d:De} {c:Cs} {f:Ja} {k:Int} (h:bP (Jd p d c k)=true) (he:decide ((Jn p d c k).2=0)=true):xV p d c f k=(gB (gT (Ge f (Jn p d c k).1) 0)&&decide (gI (gT (Ge f (Jn p d c k).1) 1)=0)):=by
 unfold xV
 rw[(oD f h (of_decide_eq_true he)).1,(oD f h (of_decide_eq_true he)).2]
end Go.Proofs.YtikinphpaiajfaaGreat
namespace Go.Proofs.YtikinphpaiajfaaGreat
open Go.Proofs.Tryz
open Go.RowKit
def Ga (b:Bool) (n:Nat):Int:=if b=true then -(n:Int) else n
def sgZ (b:Bool) (n:Nat):Int:=if n=0 then 0 else if b=true then -1 else 1
theorem AeW (b:Bool) (n:Nat):sgZ b n=(Ga b n).sign:=by
 unfold sgZ Ga
 by_cases h:n=0
 subst h;cases b<;>rfl
 rw[if_neg h]
 cases b with
 |true=>rw[if_pos rfl,if_pos rfl];exact(Int.sign_eq_neg_one_of_neg ω).symm
 |false=>rw[if_neg δ,if_neg δ];exact(Int.sign_eq_one_of_pos ω).symm
theorem Afs (b:Bool) (n:Nat):Ga (!b) n= -Ga b n:=by cases b<;>simp[Ga]
theorem Afr (b:Bool) (n:Nat) (c:Bool) (m:Nat):Ga (Pj b n c m) (No b n c m)=Ga b n+Ga c m:=by
 unfold Pj No Ga
 by_cases h:b=c
 subst h
 rw[if_pos rfl,if_pos rfl]
 cases b<;>simp<;>omega
 rw[if_neg h,if_neg h]
 by_cases hm:m<=n
 rw[if_pos hm,if_pos hm]
 cases b<;>cases c<;>first|exact absurd rfl h|(simp;omega)
 rw[if_neg hm,if_neg hm]
 cases b<;>cases c<;>first|exact absurd rfl h|(simp;omega)
theorem bD (x:Int):Ga (decide (x<0)) x.natAbs=x:=by
 unfold Ga
 by_cases h:x<0
 rw[if_pos (decide_eq_true h)];omega
 rw[if_neg (by simpa using h)];omega
theorem jE (b c:Bool) (n m:Nat):Ga (!decide (b=c)) (n*m)=Ga b n*Ga c m:=by
 cases b<;>cases c<;>simp[Ga,Int.neg_mul,Int.mul_neg]
theorem AfY (b:Bool) (n:Nat) (h:decide (((Aq n).length:Int)=0)=true):AF Tryz.prog 164 [Ee b n] (.int 0):=by
 refine Be func164 rfl λB D0 hA0=>?_
 exact Ab 17 (Dy 3 (decide (((Aq n).length:Int)=0)) true h (Ab 9 (Cu)))
theorem AfZ (n:Nat) (h:decide (((Aq n).length:Int)=0)=false):AF Tryz.prog 164 [Ee true n] (.int (-1)):=by
 refine Be func164 rfl λB D0 hA0=>?_
 exact Ab 17 (Dy 3 (decide (((Aq n).length:Int)=0)) false h (Ab 17 (Cu)))
theorem Aga (n:Nat) (h:decide (((Aq n).length:Int)=0)=false):AF Tryz.prog 164 [Ee false n] (.int 1):=by
 refine Be func164 rfl λB D0 hA0=>?_
 exact Ab 17 (Dy 3 (decide (((Aq n).length:Int)=0)) false h (Ab 18 (Cu)))
theorem Agb (b:Bool) (n:Nat):AF Tryz.prog 164 [Ee b n] (.int (sgZ b n)):=by
 unfold sgZ
 by_cases h:n=0
 rw[if_pos h]
 exact AfY b n (decide_eq_true (by rw[h,Db];rfl))
 have hl:=Ww (Nat.pos_of_ne_zero h)
 rw[if_neg h]
 cases b with
 |true=>exact AfZ n (decide_eq_false ω)
 |false=>exact Aga n (decide_eq_false ω)
theorem Acy (x y u v:Int) (hx:Da x) (hy:Da y) (hu:Da u) (hv:Da v) (hyp:0<y) (hvp:0<v):AF Tryz.prog 140 [Oy x y,Oy u v] (.lit (.tuple #[.int .i64 (sgZ (Pj (!decide (decide (x<0)=decide (v<0))) (x.natAbs*v.natAbs) (!(!decide (decide (u<0)=decide (y<0)))) (u.natAbs*y.natAbs)) (No (!decide (decide (x<0)=decide (v<0))) (x.natAbs*v.natAbs) (!(!decide (decide (u<0)=decide (y<0)))) (u.natAbs*y.natAbs))),.int .i64 0])):=by
 have d1:=hx.digits
 have d2:=hy.digits
 have d3:=hu.digits
 have d4:=hv.digits
 have p1:=Gj x.natAbs v.natAbs
 have p2:=Gj u.natAbs y.natAbs
 have p3:=Gj y.natAbs v.natAbs
 have p4:=Gj x.natAbs u.natAbs
 have p6:=Ji (!decide (decide (x<0)=decide (v<0))) (x.natAbs*v.natAbs) (!!decide (decide (u<0)=decide (y<0))) (u.natAbs*y.natAbs)
 refine Be func140 rfl λB D0 hA0=>?_
 exact Ab 13 (Aw (Wf x y u v (by assumption) (by assumption) (by assumption) (by assumption) (by assumption) (by assumption)) (Ab 10 (Aw (Ry x y u v (by assumption) (by assumption) (by assumption) (by assumption)) (Ab 13 (Dg [(2,_,.none),(3,_,.none),(4,_,.none)] [4,5] ⟨Bu (We (!decide (decide (u<0)=decide (y<0))) (u.natAbs*y.natAbs)),Bu (Pe (!decide (decide (x<0)=decide (v<0))) (x.natAbs*v.natAbs) (!(!decide (decide (u<0)=decide (y<0)))) (u.natAbs*y.natAbs) ω ω),Bu (Agb (Pj (!decide (decide (x<0)=decide (v<0))) (x.natAbs*v.natAbs) (!(!decide (decide (u<0)=decide (y<0)))) (u.natAbs*y.natAbs)) (No (!decide (decide (x<0)=decide (v<0))) (x.natAbs*v.natAbs) (!(!decide (decide (u<0)=decide (y<0)))) (u.natAbs*y.natAbs))),trivial⟩ (Ab 2 (Cu)))))))
theorem Acz (x y u v:Int) (hx:Da x) (hy:Da y) (hu:Da u) (hv:Da v) (hyp:0<y) (hvp:0<v):AF Tryz.prog 140 [Oy x y,Oy u v] (.lit (.tuple #[.int .i64 (x*v-u*y).sign,.int .i64 0])):=by
 have h:=Acy x y u v hx hy hu hv hyp hvp
 rw[AeW,Afr,Afs (!decide (decide (u<0)=decide (y<0))),jE,jE,bD,bD,bD,bD,<-Int.sub_eq_add_neg] at h
 exact h
theorem cJ {b:Bool} {n m:Nat} (h:m∣n):Ii b n m=n/m:=by
 have e:n%m=0:=Nat.mod_eq_zero_of_dvd h
 unfold Ii
 rw[e,if_neg (by simp)]
theorem Nr {b:Bool} {n m:Nat} (h:m∣n) (hn:bitLen n<=65536):bitLen (Ii b n m)<=65536:=by
 rw[cJ h]
 exact Nat.le_trans (Lh (Nat.div_le_self n m)) hn
theorem kX {n:Nat} (h:bitLen n<=65536):(Aq n).length<=1024:=(show Da (n:Int) from h).digits
theorem AiS {n:Nat} (h:bitLen n<=65536):(be n).length<=8192:=(show Da (n:Int) from h).bytes
theorem Oc (b:Bool) (n:Nat):(Ga b n).natAbs=n:=by cases b<;>simp[Ga]
theorem Aez {b:Bool} {n:Nat} (h:0<n):decide (Ga b n<0)=b:=by
 cases b
 exact decide_eq_false (by unfold Ga;rw[if_neg δ];omega)
 exact decide_eq_true (by unfold Ga;rw[if_pos rfl];omega)
theorem sG {b:Bool} {n:Nat} (h:0<n):Value.agg #[.bool b,.string (Dd n)]=Ar (Ga b n):=by
 show _=Value.agg #[.bool (decide (Ga b n<0)),.string (Dd (Ga b n).natAbs)]
 rw[Aez h,Oc]
theorem cB (n:Nat):Value.agg #[.bool false,.string (Dd n)]=Ar (Ga false n):=by
 show _=Value.agg #[.bool (decide (Ga false n<0)),.string (Dd (Ga false n).natAbs)]
 rw[Oc,show decide (Ga false n<0)=false from decide_eq_false (by unfold Ga;rw[if_neg δ];omega)]
theorem AiB (n:Nat) (h:decide ((65536:Int)<(bitLen n:Int))=false) (h2:decide ((0:Int)<((Aq n).length:Int))=true) (hl:(Aq n).length<=1024) (_:(be n).length<=8192):AF Tryz.prog 96 [Ee true n] (.lit (.tuple #[.agg #[.bool true,.string (Dd n)],.int .i64 0])):=by
 refine Be func96 rfl λB D0 hA0=>?_
 exact Ab 12 (Aw (Mw n ω) (Ab 3 (Dy 7 (decide ((65536:Int)<(bitLen n:Int))) false h (Ab 4 (Dg [(6,.bool true,.none),(10,_,.none)] [2,3] ⟨xH h2,Bu (Kn n (Sk ω)),trivial⟩ (Ab 2 (Cu)))))))
theorem AiC (n:Nat) (h:decide ((65536:Int)<(bitLen n:Int))=false) (h2:decide ((0:Int)<((Aq n).length:Int))=false) (hl:(Aq n).length<=1024) (_:(be n).length<=8192):AF Tryz.prog 96 [Ee true n] (.lit (.tuple #[.agg #[.bool false,.string (Dd n)],.int .i64 0])):=by
 refine Be func96 rfl λB D0 hA0=>?_
 exact Ab 12 (Aw (Mw n ω) (Ab 3 (Dy 7 (decide ((65536:Int)<(bitLen n:Int))) false h (Ab 4 (Dg [(6,.bool false,.none),(10,_,.none)] [2,3] ⟨xH h2,Bu (Kn n (Sk ω)),trivial⟩ (Ab 2 (Cu)))))))
theorem AiD (n:Nat) (h:decide ((65536:Int)<(bitLen n:Int))=false) (hl:(Aq n).length<=1024) (_:(be n).length<=8192):AF Tryz.prog 96 [Ee false n] (.lit (.tuple #[.agg #[.bool false,.string (Dd n)],.int .i64 0])):=by
 refine Be func96 rfl λB D0 hA0=>?_
 exact Ab 12 (Aw (Mw n ω) (Ab 3 (Dy 7 (decide ((65536:Int)<(bitLen n:Int))) false h (Ab 4 (Dg [(10,_,.none)] [2,3] ⟨Bu (Kn n (Sk ω)),trivial⟩ (Ab 2 (Cu)))))))
theorem fV (b:Bool) (n:Nat) (h:bitLen n<=65536):AF Tryz.prog 96 [Ee b n] (.lit (.tuple #[Ar (Ga b n),.int .i64 0])):=by
 have hl:=kX h
 have hb:=AiS h
 have h1:decide ((65536:Int)<(bitLen n:Int))=false:=decide_eq_false ω
 cases b with
 |false=>rw[<-cB];exact AiD n h1 hl hb
 |true=>
  by_cases h0:0<n
  have:=Ww h0
  rw[<-sG h0];exact AiB n h1 (decide_eq_true ω) hl hb
  obtain rfl:n=0:=by omega
  have e:Ga true 0=Ga false 0:=rfl
  rw[e,<-cB];exact AiC 0 h1 (decide_eq_false (by rw[Db];decide)) hl hb
theorem oQ {n k:Nat}:Nat.gcd n k∣n:=Nat.gcd_dvd_left n k
theorem Wr {n k:Nat}:Nat.gcd n k∣k:=Nat.gcd_dvd_right n k
theorem rT (b:Bool) (n:Nat) (c:Bool) (k:Nat) (h0:0<k) (hn:bitLen n<=65536) (hk:bitLen k<=65536):AF Tryz.prog 176 [Ee b n,Ee c k] (.lit (.tuple #[.agg #[.bool (decide (Ga (!decide (b=c)) (Ii b n (Nat.gcd n k))<0)),.string (Dd (Ga (!decide (b=c)) (Ii b n (Nat.gcd n k))).natAbs),.bool (decide (Ga (!decide (c=c)) (Ii c k (Nat.gcd n k))<0)),.string (Dd (Ga (!decide (c=c)) (Ii c k (Nat.gcd n k))).natAbs)],.int .i64 0])):=by
 have hg:0<Nat.gcd n k:=Nat.gcd_pos_of_pos_right n h0
 have l1:=kX hn
 have l2:=kX hk
 have hg1:=kY (n:=n) h0
 have hq1:bitLen (Ii b n (Nat.gcd n k))<=65536:=Nr oQ hn
 have hq2:bitLen (Ii c k (Nat.gcd n k))<=65536:=Nr Wr hk
 refine Be func176 rfl λB D0 hA0=>?_
 exact Ab 9 (Dg [(6,_,.none)] [2,3,4,6] ⟨Bu (jK n k ω ω),trivial⟩ (Ab 5 (Aw (Mu b n c (Nat.gcd n k) ω ω ω) (Ab 10 (Aw (Mu c k c (Nat.gcd n k) ω ω ω) (Ab 9 (Aw (fV (!decide (b=c)) (Ii b n (Nat.gcd n k)) (by assumption)) (Ab 11 (Aw (fV (!decide (c=c)) (Ii c k (Nat.gcd n k)) (by assumption)) (Ab 32 (Cu)))))))))))
def Ahx (v:Rr×Int):AV:= .lit (.tuple #[.agg #[.bool v.1.num.neg,.string v.1.num.mag,.bool v.1.den.neg,.string v.1.den.mag],.int .i64 v.2])
def Aku (r:AV):Prop:=∃v:Rr×Int,(v.2=0->Uo v.1)/\r=Ahx v
theorem AjE (b:Bool) (n:Nat) (c:Bool) (k:Nat) (h0:0<k) (hn:bitLen n<=65536) (hk:bitLen k<=65536):Uo ⟨⟨decide (Ga (!decide (b=c)) (Ii b n (Nat.gcd n k))<0),Dd (Ga (!decide (b=c)) (Ii b n (Nat.gcd n k))).natAbs⟩,⟨decide (Ga (!decide (c=c)) (Ii c k (Nat.gcd n k))<0),Dd (Ga (!decide (c=c)) (Ii c k (Nat.gcd n k))).natAbs⟩⟩:=by
 refine⟨_,_,?_,?_,?_,rfl⟩
 show bitLen _<=_
 rw[Oc];exact Nr oQ hn
 show bitLen _<=_
 rw[Oc];exact Nr Wr hk
 rw[show (!decide (c=c))=false by simp,cJ Wr]
 have:=Nat.div_pos (Nat.le_of_dvd h0 Wr) (Nat.gcd_pos_of_pos_right n h0)
 unfold Ga
 rw[if_neg δ]
 omega
theorem AfB (x y:Int) (hx:Da x) (hy:Da y) (h1:bitLen x.natAbs<=65536) (h2:bitLen y.natAbs<=65536):∃r,(Gm [.agg [.b,.s,.b,.s],.one .i] r/\Aku r)/\AF Tryz.prog 133 [WA x,WA y] r:=by
 have hd:=hx.digits
 have he:=hy.digits
 refine Cd func133 rfl ?_
 refine Ae 13 (gs (Aw (Jg x y (by assumption) (by assumption)) ·) (Ae 11 (gs (Mm (.bool ((Dd y.natAbs).toList==(⟨#[]⟩:ByteArray).toList)) (.bool ((Dd y.natAbs).toList==(⟨#[]⟩:ByteArray).toList)) ·) (Ae 2 (tsb 13 ((Dd y.natAbs).toList==(⟨#[]⟩:ByteArray).toList) (λhx1=>?_) (λhx1=>?_))))))
 exact Ae 10 (Fd (.lit (.tuple #[.agg #[.bool false,.string ⟨#[]⟩,.bool false,.string ⟨#[]⟩],.int .i64 3])) ⟨(⟨⟨false,⟨#[]⟩⟩,⟨false,⟨#[]⟩⟩⟩,3),λh=>absurd h δ,rfl⟩)
 refine Ae 3 ?_
 have hp:=wM hx1
 exact Ae 1 (gs (Dg [(1,_,.none),(3,_,.none),(4,_,.none)] [4,5] ⟨Bu (Ei x (by assumption)),Bu (Ei y (by assumption)),Bu (rT (decide (x<0)) x.natAbs (decide (y<0)) y.natAbs (by assumption) (by assumption) (by assumption)),trivial⟩ ·) (Ae 2 (Fd (.lit (.tuple #[.agg #[.bool (decide (Ga (!decide ((decide (x<0))=(decide (y<0)))) (Ii (decide (x<0)) x.natAbs (Nat.gcd x.natAbs y.natAbs))<0)),.string (Dd (Ga (!decide ((decide (x<0))=(decide (y<0)))) (Ii (decide (x<0)) x.natAbs (Nat.gcd x.natAbs y.natAbs))).natAbs),.bool (decide (Ga (!decide ((decide (y<0))=(decide (y<0)))) (Ii (decide (y<0)) y.natAbs (Nat.gcd x.natAbs y.natAbs))<0)),.string (Dd (Ga (!decide ((decide (y<0))=(decide (y<0)))) (Ii (decide (y<0)) y.natAbs (Nat.gcd x.natAbs y.natAbs))).natAbs)],.int .i64 0])) ⟨(⟨⟨decide (Ga (!decide ((decide (x<0))=(decide (y<0)))) (Ii (decide (x<0)) x.natAbs (Nat.gcd x.natAbs y.natAbs))<0),Dd (Ga (!decide ((decide (x<0))=(decide (y<0)))) (Ii (decide (x<0)) x.natAbs (Nat.gcd x.natAbs y.natAbs))).natAbs⟩,⟨decide (Ga (!decide ((decide (y<0))=(decide (y<0)))) (Ii (decide (y<0)) y.natAbs (Nat.gcd x.natAbs y.natAbs))<0),Dd (Ga (!decide ((decide (y<0))=(decide (y<0)))) (Ii (decide (y<0)) y.natAbs (Nat.gcd x.natAbs y.natAbs))).natAbs⟩⟩,0),λ_=>AjE _ _ _ _ (by assumption) (by assumption) (by assumption),rfl⟩)))
theorem AfC (x y:Int) (hx:Da x) (hy:Da y):∃v:Rr×Int,(v.2=0->Uo v.1)/\AF Tryz.prog 133 [WA x,WA y] (Ahx v):=by
 obtain⟨r,⟨_,v,hv,rfl⟩,h⟩:=AfB x y hx hy hx hy
 exact⟨v,hv,h⟩
theorem AfD (x y:Int) (hx0: -9223372036854775808<=x) (hx1:x<=9223372036854775807) (hy0: -9223372036854775808<=y) (hy1:y<=9223372036854775807):∃r,(Gm [.agg [.b,.s,.b,.s],.one .i] r/\Aku r)/\AF Tryz.prog 183 [.int x,.int y] r:=by
 have hx:=Gi hx0 hx1
 have hy:=Gi hy0 hy1
 refine Cd func183 rfl ?_
 exact Ae 9 (gs (Aw (Hk x (by assumption) (by assumption)) ·) (Ae 1 (gs (Aw (Hk y (by assumption) (by assumption)) ·) (Exists.elim (AfC x y (by assumption) (by assumption)) λv1 hv1=>(gs (Aw hv1.2 ·) (Ae 7 (Fd (Ahx v1) ⟨v1,hv1.1,rfl⟩)))))))
theorem dZ (x y:Int) (hx0: -9223372036854775808<=x) (hx1:x<=9223372036854775807) (hy0: -9223372036854775808<=y) (hy1:y<=9223372036854775807):∃v:Rr×Int,(v.2=0->Uo v.1)/\AF Tryz.prog 183 [.int x,.int y] (Ahx v):=by
 obtain⟨r,⟨_,v,hv,rfl⟩,h⟩:=AfD x y hx0 hx1 hy0 hy1
 exact⟨v,hv,h⟩
end Go.Proofs.YtikinphpaiajfaaGreat
namespace Go.Proofs.YtikinphpaiajfaaGreat
open Go.RowKit
open Go.Sort hiding Below
theorem vJ {w w':World} (hb:Below w.heap.size w w') (hd:w.drawn<=w'.drawn):∃q os',w'=grow (w.drewN q) os':=by
 refine⟨w'.drawn-w.drawn,w'.heap.extract w.heap.size w'.heap.size,?_⟩
 have e:w'.heap=w.heap++w'.heap.extract w.heap.size w'.heap.size:=by
  apply Array.ext
  have:=hb.size
  simp;omega
  intro i h1 h2
  by_cases hi:i<w.heap.size
  rw[Array.getElem_append_left hi]
  have:=hb.block i hi
  rw[Array.getElem?_eq_getElem h1,Array.getElem?_eq_getElem hi] at this
  exact Option.some.inj this
  rw[Array.getElem_append_right ω]
  simp[show w.heap.size+(i-w.heap.size)=i by omega]
 obtain⟨h1,h2,h3,h4,h5⟩:=w'
 have g1:=hb.os;have g2:=hb.tape;have g3:=hb.output
 simp only at e g1 g2 g3 hd
 show _=World.mk _ _ _ _ _
 simp only[World.drewN]
 rw[<-e,g1,g2,g3,show w.drawn+(h3-w.drawn)=h3 by omega]
theorem oA {f:FuncId} {l:List Value} {r:Value} (h:AF Tryz.prog f (l.map .lit) (.lit r)) (w:World):Calls Tryz.prog f l.toArray w λe w'=>e= .returned r/\∃q os',w'=grow (w.drewN q) os':=by
 refine(Drw.calls_drawn (h { π:=λ_=>0,cap:=λ_=>0,A:=λ_=>False,D:=λ_=>False,w:=w } l.toArray (λ_ h=>h.elim) (by simp) λi hi=>?_)).mono ?_
 have h2:i<l.length:=by simpa using hi
 have e1:(l.map AV.lit).getD i .top= .lit (l.toArray.getD i undef):=by simp[List.getD_eq_getElem?_getD,h2]
 rw[e1];exact .lit _ _
 rintro e w' ⟨⟨v,D',rfl,hr,hb,_,_,_⟩,hd⟩
 exact⟨by rw[hr.lit_inv],vJ hb (hd (by simp))⟩
abbrev RQ:={r:Rr//Uo r}
theorem dY:Uo ⟨⟨false,⟨#[]⟩⟩,⟨decide ((1:Int)<0),Dd 1⟩⟩:=⟨0,1,Gi δ δ,Gi δ δ,δ,by
 have e:Dd (0:Int).natAbs=⟨#[]⟩:=Pk
 show AV.lit (Value.agg #[.bool false,.string ⟨#[]⟩,.bool (decide ((1:Int)<0)),.string (Dd 1)])=AV.lit (Value.agg #[.bool (decide ((0:Int)<0)),.string (Dd (0:Int).natAbs),.bool (decide ((1:Int)<0)),.string (Dd (1:Int).natAbs)])
 rw[e];rfl⟩
noncomputable instance:Inhabited RQ:=⟨⟨_,dY⟩⟩
def oG (r:RQ):List Value:=[.bool r.1.num.neg,.string r.1.num.mag,.bool r.1.den.neg,.string r.1.den.mag]
noncomputable def rqx (r:RQ):Int:=r.2.choose
noncomputable def rqy (r:RQ):Int:=r.2.choose_spec.choose
theorem Oi (r:RQ):Da (rqx r)/\Da (rqy r)/\0<rqy r/\Cz r.1=Oy (rqx r) (rqy r):=r.2.choose_spec.choose_spec
noncomputable def cfQ (a b:RQ):Int:=(rqx a*rqy b-rqx b*rqy a).sign
theorem Qp {a b:RQ}:cfQ a b<0↔rqx a*rqy b<rqx b*rqy a:=by
 unfold cfQ
 constructor
 intro h
 refine Int.not_le.1 λh2=>?_
 have:0<=(rqx a*rqy b-rqx b*rqy a).sign:=Int.sign_nonneg_iff.2 ω
 omega
 intro h
 rw[Int.sign_eq_neg_one_of_neg ω]
 decide
theorem Adr {a b c d e f:Int} (hb:0<b) (hd:0<d) (hf:0<f) (h1:a*d<c*b) (h2:c*f<e*d):a*f<e*b:=by
 have g1:a*d*f<c*b*f:=Int.mul_lt_mul_of_pos_right h1 hf
 have g2:c*f*b<e*d*b:=Int.mul_lt_mul_of_pos_right h2 hb
 have e1:c*b*f=c*f*b:=by rw[Int.mul_assoc,Int.mul_comm b f,<-Int.mul_assoc]
 have e2:a*d*f=a*f*d:=by rw[Int.mul_assoc,Int.mul_comm d f,<-Int.mul_assoc]
 have e3:e*d*b=e*b*d:=by rw[Int.mul_assoc,Int.mul_comm d b,<-Int.mul_assoc]
 have g3:a*f*d<e*b*d:=by rw[<-e2,<-e3];rw[e1] at g1;exact Int.lt_trans g1 g2
 exact Int.lt_of_mul_lt_mul_right g3 (Int.le_of_lt hd)
theorem Adq {a b c d e f:Int} (hb:0<b) (hd:0<d) (hf:0<f) (h1:a*d<=c*b) (h2:c*f<=e*d):a*f<=e*b:=by
 have g1:a*d*f<=c*b*f:=Int.mul_le_mul_of_nonneg_right h1 (Int.le_of_lt hf)
 have g2:c*f*b<=e*d*b:=Int.mul_le_mul_of_nonneg_right h2 (Int.le_of_lt hb)
 have e1:c*b*f=c*f*b:=by rw[Int.mul_assoc,Int.mul_comm b f,<-Int.mul_assoc]
 have e2:a*d*f=a*f*d:=by rw[Int.mul_assoc,Int.mul_comm d f,<-Int.mul_assoc]
 have e3:e*d*b=e*b*d:=by rw[Int.mul_assoc,Int.mul_comm d b,<-Int.mul_assoc]
 have g3:a*f*d<=e*b*d:=by rw[<-e2,<-e3];rw[e1] at g1;exact Int.le_trans g1 g2
 exact Int.le_of_mul_le_mul_right g3 hd
theorem AkX:SWO (ltOf cfQ) where
 irrefl x:=decide_eq_false λh=>by have:=Qp.1 h;omega
 trans x y z h1 h2:=decide_eq_true (Qp.2 (Adr (Oi x).2.2.1 (Oi y).2.2.1 (Oi z).2.2.1 (Qp.1 (of_decide_eq_true h1)) (Qp.1 (of_decide_eq_true h2))))
 ntrans x y z h1 h2:=decide_eq_false λh=>by
  have k1:¬(rqx x*rqy y<rqx y*rqy x):=λg=>of_decide_eq_false h1 (Qp.2 g)
  have k2:¬(rqx y*rqy z<rqx z*rqy y):=λg=>of_decide_eq_false h2 (Qp.2 g)
  have k3:=Qp.1 h
  have:=Adq (Oi z).2.2.1 (Oi y).2.2.1 (Oi x).2.2.1 (Int.not_lt.1 k2) (Int.not_lt.1 k1)
  omega
theorem AfT (a b:RQ):AF Tryz.prog 140 [Cz a.1,Cz b.1] (.lit (.tuple #[.int .i64 (cfQ a b),.int .i64 0])):=by
 obtain⟨h1,h2,h3,h4⟩:=Oi a
 obtain⟨k1,k2,k3,k4⟩:=Oi b
 rw[h4,k4]
 exact Acz _ _ _ _ h1 h2 k1 k2 h3 k3
theorem zC (a b:RQ):AF Tryz.prog 139 [Cz a.1,Cz b.1] (.lit (.int .i64 (cfQ a b))):=by
 refine Be Tryz.func139 rfl λB D0 hA0=>?_
 exact Ab 11 (Aw (AfT a b) (Ab 14 (Cu)))
theorem Adn (blk off size:Nat) (w:World):CmpLays Tryz.prog 139 #[] oG 4 cfQ blk off size w:=λ_ _ _ _ x y=>oA (l:=[.agg (oG x).toArray,.agg (oG y).toArray]) (zC x y) _
noncomputable def yM (d:Array RQ):Array RQ:=pdq (ltOf cfQ) d 0 d.size (Lib.bitLen d.size) true true
theorem uW (d:Array RQ):(yM d).size=d.size:=(pdq_sorts (ltOf cfQ) AkX d 0 d.size (Lib.bitLen d.size) true true (Nat.zero_le _) (Nat.le_refl _) (Or.inl rfl)).1.1
theorem yT (d:Array RQ) (hd:d.size<4611686018427387904):AFW Tryz.prog 141 4 oG d (yM d) [.func (.func 139) #[] #[]]:=λblk off cap w hH hb=>by
 have h:=AnyQ.slices_SortFunc_eq Tryz.laysSort 4 (λw=>by kernel_rfl) (λw=>by kernel_rfl) oG (λ_=>rfl) (λx v hv=>by
  unfold oG at hv
  simp at hv
  rcases hv with rfl|rfl|rfl|rfl<;>rfl) cfQ AkX 139 #[] blk off cap d w (λargs w=>by kernel_rfl) (Adn blk off d.size w) hH hb hd
 refine h.mono ?_
 rintro e w' ⟨rfl,n,os,rfl⟩
 exact⟨rfl,n,os,rfl⟩
end Go.Proofs.YtikinphpaiajfaaGreat
namespace Go.Proofs.YtikinphpaiajfaaGreat
open Go.Proofs.Tryz
open Go.RowKit
theorem Pu {f:FuncId} {t:TypeId} {us:List Value} {hs:Vc} {args:List AV} {σ:List SC} (h:∃V us',(shV σ V=true/\∃e,us'=[.int .i64 e])/\mE Tryz.prog f t us us' hs args V):∃v:Value×Int,mE Tryz.prog f t us [.int .i64 v.2] hs args (Ht σ v.1):=by
 obtain⟨V,us',⟨h1,e,rfl⟩,h2⟩:=h
 exact⟨(V,e),by rw[tY σ V h1];exact h2⟩
structure Sq where
 u:Rw
 v:Rw
 w:Rw
abbrev sqA (p:Sq):AV:= .lit (.agg #[.bool p.u.neg,.string p.u.mag,.bool p.v.neg,.string p.v.mag,.bool p.w.neg,.string p.w.mag])
theorem cG (e:Int) (a:Rw) (f:Int):∃v:Value×Int,mE Tryz.prog 145 219 [.int .i64 e] [.int .i64 v.2] [] [.ptr 0 0,Gk a,.int f] (Ht [.agg [.b,.s]] v.1):=by
 refine Pu (Kx func145 rfl ?_)
 refine Ae 16 (Ff 11 ?_ ?_)
 exact Ae 16 (Re (.agg #[.bool a.neg,.string a.mag]) [.int .i64 f] ⟨rfl,_,rfl⟩)
 exact Ae 10 (Re (.agg #[.bool a.neg,.string a.mag]) [.int .i64 e] ⟨rfl,_,rfl⟩)
theorem Mc (e:Int) (a:Rw) (b:Rw):∃v:Value×Int,mE Tryz.prog 144 219 [.int .i64 e] [.int .i64 v.2] [] [.ptr 0 0,Gk a,Gk b] (Ht [.agg [.b,.s]] v.1):=by
 refine Pu (Kx func144 rfl ?_)
 exact Ae 12 (Eh (bK a b) λv1 hv1=>(gs (Aw hv1 ·) (Ae 2 (Exists.elim (cG e (⟨(gB (gT (gT v1 0) 0)),(gS (gT (gT v1 0) 1))⟩) (gI (gT v1 1))) λv2 hv2=>(gs (Bi (.lit (.agg #[.bool (gB (gT v2.1 0)),.string (gS (gT v2.1 1))])) (.setr [] 0 (.box 219 [.int v2.2])) (Bg (.func 145) 145 #[.tmp 7,.tmp 11,.tmp 12] #[263,94,38] κ [] κ (λ_ _=>by kernel_rfl) 0 [] κ 219 [.int .i64 e] [.int .i64 v2.2] κ [] κ [] κ [.ptr 0 0,.lit (.agg #[.bool (gB (gT (gT v1 0) 0)),.string (gS (gT (gT v1 0) 1))]),.int (gI (gT v1 1))] κ (.agg #[.bool (gB (gT v2.1 0)),.string (gS (gT v2.1 1))]) hv2) ·) (Ae 4 (Re (.agg #[.bool (gB (gT v2.1 0)),.string (gS (gT v2.1 1))]) [.int .i64 v2.2] ⟨rfl,_,rfl⟩)))))))
theorem kC (e:Int) (a:Rw) (b:Rw):∃v:Value×Int,mE Tryz.prog 191 219 [.int .i64 e] [.int .i64 v.2] [] [.ptr 0 0,Gk a,Gk b] (Ht [.agg [.b,.s]] v.1):=by
 refine Pu (Kx func191 rfl ?_)
 exact Ae 12 (Eh (Ac9 a b) λv1 hv1=>(gs (Aw hv1 ·) (Ae 2 (Exists.elim (cG e (⟨(gB (gT (gT v1 0) 0)),(gS (gT (gT v1 0) 1))⟩) (gI (gT v1 1))) λv2 hv2=>(gs (Bi (.lit (.agg #[.bool (gB (gT v2.1 0)),.string (gS (gT v2.1 1))])) (.setr [] 0 (.box 219 [.int v2.2])) (Bg (.func 145) 145 #[.tmp 7,.tmp 11,.tmp 12] #[263,94,38] κ [] κ (λ_ _=>by kernel_rfl) 0 [] κ 219 [.int .i64 e] [.int .i64 v2.2] κ [] κ [] κ [.ptr 0 0,.lit (.agg #[.bool (gB (gT (gT v1 0) 0)),.string (gS (gT (gT v1 0) 1))]),.int (gI (gT v1 1))] κ (.agg #[.bool (gB (gT v2.1 0)),.string (gS (gT v2.1 1))]) hv2) ·) (Ae 4 (Re (.agg #[.bool (gB (gT v2.1 0)),.string (gS (gT v2.1 1))]) [.int .i64 v2.2] ⟨rfl,_,rfl⟩)))))))
theorem sR (e:Int) (x:Rr) (y:Rr):∃v:Value×Int,mE Tryz.prog 148 219 [.int .i64 e] [.int .i64 v.2] [] [.ptr 0 0,Cz x,Cz y] (Ht [.agg [.b,.s,.b,.s,.b,.s]] v.1):=by
 refine Pu (Kx func148 rfl ?_)
 exact Ae 8 (Exists.elim (Mc e x.num y.den) λv1 hv1=>(Exists.elim (Mc v1.2 y.num x.den) λv2 hv2=>(Exists.elim (Mc v2.2 x.den y.den) λv3 hv3=>(gs (Dg [(5,.lit (.agg #[.bool (gB (gT v1.1 0)),.string (gS (gT v1.1 1))]),(.setr [] 0 (.box 219 [.int v1.2]))),(11,.lit (.agg #[.bool (gB (gT v2.1 0)),.string (gS (gT v2.1 1))]),(.setr [] 0 (.box 219 [.int v2.2]))),(17,.lit (.agg #[.bool (gB (gT v3.1 0)),.string (gS (gT v3.1 1))]),(.setr [] 0 (.box 219 [.int v3.2])))] [6] ⟨As (Bg (.func 144) 144 #[.tmp 7,.tmp 9,.tmp 11] #[263,94,94] κ [] κ (λ_ _=>by kernel_rfl) 0 [] κ 219 [.int .i64 e] [.int .i64 v1.2] κ [] κ [] κ [.ptr 0 0,.lit (.agg #[.bool x.num.neg,.string x.num.mag]),.lit (.agg #[.bool y.den.neg,.string y.den.mag])] κ (.agg #[.bool (gB (gT v1.1 0)),.string (gS (gT v1.1 1))]) hv1),As (Bg (.func 144) 144 #[.tmp 13,.tmp 15,.tmp 17] #[263,94,94] κ [] κ (λ_ _=>by kernel_rfl) 0 [] κ 219 [.int .i64 v1.2] [.int .i64 v2.2] κ [] κ [] κ [.ptr 0 0,.lit (.agg #[.bool y.num.neg,.string y.num.mag]),.lit (.agg #[.bool x.den.neg,.string x.den.mag])] κ (.agg #[.bool (gB (gT v2.1 0)),.string (gS (gT v2.1 1))]) hv2),As (Bg (.func 144) 144 #[.tmp 19,.tmp 21,.tmp 23] #[263,94,94] κ [] κ (λ_ _=>by kernel_rfl) 0 [] κ 219 [.int .i64 v2.2] [.int .i64 v3.2] κ [] κ [] κ [.ptr 0 0,.lit (.agg #[.bool x.den.neg,.string x.den.mag]),.lit (.agg #[.bool y.den.neg,.string y.den.mag])] κ (.agg #[.bool (gB (gT v3.1 0)),.string (gS (gT v3.1 1))]) hv3),trivial⟩ ·) (Ae 2 (Re (.agg #[.bool (gB (gT v1.1 0)),.string (gS (gT v1.1 1)),.bool (gB (gT v2.1 0)),.string (gS (gT v2.1 1)),.bool (gB (gT v3.1 0)),.string (gS (gT v3.1 1))]) [.int .i64 v3.2] ⟨rfl,_,rfl⟩))))))
theorem Po (e:Int) (n:Int) (m:Int) (t:Rr):∃v:Value×Int,mE Tryz.prog 143 219 [.int .i64 e] [.int .i64 v.2] [] [.int n,.int m,Cz t,.ptr 0 0] (Ht [.agg [.b,.s,.b,.s]] v.1):=by
 refine Pu (Kx func143 rfl ?_)
 exact Ae 7 (Eh (Ma m) λv1 hv1=>(Exists.elim (Mc e (⟨(gB (gT v1 0)),(gS (gT v1 1))⟩) t.num) λv2 hv2=>(gs (Dg [(1,_,.none),(4,.lit (.agg #[.bool (gB (gT v2.1 0)),.string (gS (gT v2.1 1))]),(.setr [] 0 (.box 219 [.int v2.2])))] [0,3,6,7,8] ⟨Bu hv1,As (Bg (.func 144) 144 #[.tmp 3,.tmp 10,.tmp 12] #[219,94,94] κ [] κ (λ_ _=>by kernel_rfl) 0 [] κ 219 [.int .i64 e] [.int .i64 v2.2] κ [] κ [] κ [.ptr 0 0,.lit (.agg #[.bool (gB (gT v1 0)),.string (gS (gT v1 1))]),.lit (.agg #[.bool t.num.neg,.string t.num.mag])] κ (.agg #[.bool (gB (gT v2.1 0)),.string (gS (gT v2.1 1))]) hv2),trivial⟩ ·) (Ae 2 (Eh (Ma n) λv3 hv3=>(Exists.elim (Mc v2.2 (⟨(gB (gT v3 0)),(gS (gT v3 1))⟩) t.den) λv4 hv4=>(Eh (nF (⟨(gB (gT v2.1 0)),(gS (gT v2.1 1))⟩) (⟨(gB (gT v4.1 0)),(gS (gT v4.1 1))⟩)) λv5 hv5=>(Exists.elim (cG v4.2 (⟨(gB (gT (gT v5 0) 0)),(gS (gT (gT v5 0) 1))⟩) (gI (gT v5 1))) λv6 hv6=>(gs (Dg [(2,_,.none),(5,.lit (.agg #[.bool (gB (gT v4.1 0)),.string (gS (gT v4.1 1))]),(.setr [] 0 (.box 219 [.int v4.2]))),(6,_,.none),(9,.lit (.agg #[.bool (gB (gT v6.1 0)),.string (gS (gT v6.1 1))]),(.setr [] 0 (.box 219 [.int v6.2])))] [7] ⟨Bu hv3,As (Bg (.func 144) 144 #[.tmp 3,.tmp 16,.tmp 18] #[219,94,94] κ [] κ (λ_ _=>by kernel_rfl) 0 [] κ 219 [.int .i64 v2.2] [.int .i64 v4.2] κ [] κ [] κ [.ptr 0 0,.lit (.agg #[.bool (gB (gT v3 0)),.string (gS (gT v3 1))]),.lit (.agg #[.bool t.den.neg,.string t.den.mag])] κ (.agg #[.bool (gB (gT v4.1 0)),.string (gS (gT v4.1 1))]) hv4),Bu hv5,As (Bg (.func 145) 145 #[.tmp 3,.tmp 21,.tmp 22] #[219,94,38] κ [] κ (λ_ _=>by kernel_rfl) 0 [] κ 219 [.int .i64 v4.2] [.int .i64 v6.2] κ [] κ [] κ [.ptr 0 0,.lit (.agg #[.bool (gB (gT (gT v5 0) 0)),.string (gS (gT (gT v5 0) 1))]),.int (gI (gT v5 1))] κ (.agg #[.bool (gB (gT v6.1 0)),.string (gS (gT v6.1 1))]) hv6),trivial⟩ ·) (Ae 2 (Re (.agg #[.bool (gB (gT v6.1 0)),.string (gS (gT v6.1 1)),.bool t.den.neg,.string t.den.mag]) [.int .i64 v6.2] ⟨rfl,_,rfl⟩)))))))))))
theorem wV (e:Int) (p:Sq) (a:V3):∃v:Value×Int,mE Tryz.prog 190 219 [.int .i64 e] [.int .i64 v.2] [(263,[.ptr 0 0]),(224,[.lit (.bool p.u.neg),.lit (.string p.u.mag),.lit (.bool p.v.neg),.lit (.string p.v.mag),.lit (.bool p.w.neg),.lit (.string p.w.mag)])] [Bs a,.ptr 1 0,.ptr 2 0] (Ht [.agg [.b,.s],.agg [.b,.s]] v.1):=by
 refine Pu (Kx func190 rfl ?_)
 exact Ae 8 (Eh (Ma a.x) λv1 hv1=>(Exists.elim (Mc e (⟨(gB (gT v1 0)),(gS (gT v1 1))⟩) p.w) λv2 hv2=>(Exists.elim (kC v2.2 p.u (⟨(gB (gT v2.1 0)),(gS (gT v2.1 1))⟩)) λv3 hv3=>(Eh (Ma a.y) λv4 hv4=>(Exists.elim (Mc v3.2 (⟨(gB (gT v4 0)),(gS (gT v4 1))⟩) p.w) λv5 hv5=>(Exists.elim (kC v5.2 p.v (⟨(gB (gT v5.1 0)),(gS (gT v5.1 1))⟩)) λv6 hv6=>(gs (Dg [(6,_,.none),(9,.lit (.agg #[.bool (gB (gT v2.1 0)),.string (gS (gT v2.1 1))]),(.setr [] 0 (.box 219 [.int v2.2]))),(10,.lit (.agg #[.bool (gB (gT v3.1 0)),.string (gS (gT v3.1 1))]),(.setr [] 0 (.box 219 [.int v3.2]))),(17,_,.none),(20,.lit (.agg #[.bool (gB (gT v5.1 0)),.string (gS (gT v5.1 1))]),(.setr [] 0 (.box 219 [.int v5.2]))),(21,.lit (.agg #[.bool (gB (gT v6.1 0)),.string (gS (gT v6.1 1))]),(.setr [] 0 (.box 219 [.int v6.2])))] [4,5] ⟨Bu hv1,As (Bg (.func 144) 144 #[.tmp 9,.tmp 12,.tmp 14] #[263,94,94] κ [] κ (λ_ _=>by kernel_rfl) 0 [] κ 219 [.int .i64 e] [.int .i64 v2.2] κ [] κ [] κ [.ptr 0 0,.lit (.agg #[.bool (gB (gT v1 0)),.string (gS (gT v1 1))]),.lit (.agg #[.bool p.w.neg,.string p.w.mag])] κ (.agg #[.bool (gB (gT v2.1 0)),.string (gS (gT v2.1 1))]) hv2),As (Bg (.func 191) 191 #[.tmp 6,.tmp 8,.tmp 15] #[263,94,94] κ [] κ (λ_ _=>by kernel_rfl) 0 [] κ 219 [.int .i64 v2.2] [.int .i64 v3.2] κ [] κ [] κ [.ptr 0 0,.lit (.agg #[.bool p.u.neg,.string p.u.mag]),.lit (.agg #[.bool (gB (gT v2.1 0)),.string (gS (gT v2.1 1))])] κ (.agg #[.bool (gB (gT v3.1 0)),.string (gS (gT v3.1 1))]) hv3),Bu hv4,As (Bg (.func 144) 144 #[.tmp 20,.tmp 23,.tmp 25] #[263,94,94] κ [] κ (λ_ _=>by kernel_rfl) 0 [] κ 219 [.int .i64 v3.2] [.int .i64 v5.2] κ [] κ [] κ [.ptr 0 0,.lit (.agg #[.bool (gB (gT v4 0)),.string (gS (gT v4 1))]),.lit (.agg #[.bool p.w.neg,.string p.w.mag])] κ (.agg #[.bool (gB (gT v5.1 0)),.string (gS (gT v5.1 1))]) hv5),As (Bg (.func 191) 191 #[.tmp 17,.tmp 19,.tmp 26] #[263,94,94] κ [] κ (λ_ _=>by kernel_rfl) 0 [] κ 219 [.int .i64 v5.2] [.int .i64 v6.2] κ [] κ [] κ [.ptr 0 0,.lit (.agg #[.bool p.v.neg,.string p.v.mag]),.lit (.agg #[.bool (gB (gT v5.1 0)),.string (gS (gT v5.1 1))])] κ (.agg #[.bool (gB (gT v6.1 0)),.string (gS (gT v6.1 1))]) hv6),trivial⟩ ·) (Ae 2 (Re (.tuple #[.agg #[.bool (gB (gT v3.1 0)),.string (gS (gT v3.1 1))],.agg #[.bool (gB (gT v6.1 0)),.string (gS (gT v6.1 1))]]) [.int .i64 v6.2] ⟨rfl,_,rfl⟩)))))))))
theorem Ag7 (e:Int) (p:Sq) (a:V3) (b:V3):∃v:Value×Int,mE Tryz.prog 192 219 [.int .i64 e] [.int .i64 v.2] [(263,[.ptr 0 0]),(224,[.lit (.bool p.u.neg),.lit (.string p.u.mag),.lit (.bool p.v.neg),.lit (.string p.v.mag),.lit (.bool p.w.neg),.lit (.string p.w.mag)]),(265,[.fn 190 [.ptr 1 0,.ptr 2 0]])] [Bs a,Bs b,.ptr 3 0,.ptr 1 0] (Ht [.one .i] v.1):=by
 refine Pu (Kx func192 rfl ?_)
 exact Ae 11 (Exists.elim (wV e p a) λv1 hv1=>(gs (Bi (.lit (.tuple #[.agg #[.bool (gB (gT (gT v1.1 0) 0)),.string (gS (gT (gT v1.1 0) 1))],.agg #[.bool (gB (gT (gT v1.1 1) 0)),.string (gS (gT (gT v1.1 1) 1))]])) (.setr [1,2] 0 (.box 219 [.int v1.2])) (Bg (.tmp 10) 190 #[.tmp 11] #[62] κ [.ptr 1 0,.ptr 2 0] κ (λ_ _=>by kernel_rfl) 0 [1,2] κ 219 [.int .i64 e] [.int .i64 v1.2] κ [(263,[.ptr 0 0]),(224,[.bool p.u.neg,.lit (.string p.u.mag),.bool p.v.neg,.lit (.string p.v.mag),.bool p.w.neg,.lit (.string p.w.mag)])] κ [(263,[.ptr 0 0]),(224,[.bool p.u.neg,.lit (.string p.u.mag),.bool p.v.neg,.lit (.string p.v.mag),.bool p.w.neg,.lit (.string p.w.mag)])] κ [Bs a,.ptr 1 0,.ptr 2 0] κ (.tuple #[.agg #[.bool (gB (gT (gT v1.1 0) 0)),.string (gS (gT (gT v1.1 0) 1))],.agg #[.bool (gB (gT (gT v1.1 1) 0)),.string (gS (gT (gT v1.1 1) 1))]]) hv1) ·) (Ae 10 (Eh (Ma (Ai (b.x-a.x))) λv2 hv2=>(Exists.elim (Mc v1.2 (⟨(gB (gT v2 0)),(gS (gT v2 1))⟩) (⟨(gB (gT (gT v1.1 1) 0)),(gS (gT (gT v1.1 1) 1))⟩)) λv3 hv3=>(Eh (Ma (Ai (b.y-a.y))) λv4 hv4=>(Exists.elim (Mc v3.2 (⟨(gB (gT v4 0)),(gS (gT v4 1))⟩) (⟨(gB (gT (gT v1.1 0) 0)),(gS (gT (gT v1.1 0) 1))⟩)) λv5 hv5=>(Exists.elim (kC v5.2 (⟨(gB (gT v3.1 0)),(gS (gT v3.1 1))⟩) (⟨(gB (gT v5.1 0)),(gS (gT v5.1 1))⟩)) λv6 hv6=>(Eh (Iw (⟨(gB (gT v6.1 0)),(gS (gT v6.1 1))⟩)) λv7 hv7=>(gs (Dg [(7,_,.none),(9,.lit (.agg #[.bool (gB (gT v3.1 0)),.string (gS (gT v3.1 1))]),(.setr [] 0 (.box 219 [.int v3.2]))),(16,_,.none),(18,.lit (.agg #[.bool (gB (gT v5.1 0)),.string (gS (gT v5.1 1))]),(.setr [] 0 (.box 219 [.int v5.2]))),(19,.lit (.agg #[.bool (gB (gT v6.1 0)),.string (gS (gT v6.1 1))]),(.setr [] 0 (.box 219 [.int v6.2]))),(20,_,.none)] [6] ⟨Bu hv2,As (Bg (.func 144) 144 #[.tmp 16,.tmp 22,.tmp 23] #[263,94,94] κ [] κ (λ_ _=>by kernel_rfl) 0 [] κ 219 [.int .i64 v1.2] [.int .i64 v3.2] κ [] κ [] κ [.ptr 0 0,.lit (.agg #[.bool (gB (gT v2 0)),.string (gS (gT v2 1))]),.lit (.agg #[.bool (gB (gT (gT v1.1 1) 0)),.string (gS (gT (gT v1.1 1) 1))])] κ (.agg #[.bool (gB (gT v3.1 0)),.string (gS (gT v3.1 1))]) hv3),Bu hv4,As (Bg (.func 144) 144 #[.tmp 25,.tmp 31,.tmp 32] #[263,94,94] κ [] κ (λ_ _=>by kernel_rfl) 0 [] κ 219 [.int .i64 v3.2] [.int .i64 v5.2] κ [] κ [] κ [.ptr 0 0,.lit (.agg #[.bool (gB (gT v4 0)),.string (gS (gT v4 1))]),.lit (.agg #[.bool (gB (gT (gT v1.1 0) 0)),.string (gS (gT (gT v1.1 0) 1))])] κ (.agg #[.bool (gB (gT v5.1 0)),.string (gS (gT v5.1 1))]) hv5),As (Bg (.func 191) 191 #[.tmp 15,.tmp 24,.tmp 33] #[263,94,94] κ [] κ (λ_ _=>by kernel_rfl) 0 [] κ 219 [.int .i64 v5.2] [.int .i64 v6.2] κ [] κ [] κ [.ptr 0 0,.lit (.agg #[.bool (gB (gT v3.1 0)),.string (gS (gT v3.1 1))]),.lit (.agg #[.bool (gB (gT v5.1 0)),.string (gS (gT v5.1 1))])] κ (.agg #[.bool (gB (gT v6.1 0)),.string (gS (gT v6.1 1))]) hv6),Bu hv7,trivial⟩ ·) (Ae 2 (Re (.int .i64 (gI v7)) [.int .i64 v6.2] ⟨rfl,_,rfl⟩))))))))))))
theorem aR (e:Int) (p:Sq) (a:V3) (n:Int):∃v:Value×Int,mE Tryz.prog 193 219 [.int .i64 e] [.int .i64 v.2] [(263,[.ptr 0 0]),(224,[.lit (.bool p.u.neg),.lit (.string p.u.mag),.lit (.bool p.v.neg),.lit (.string p.v.mag),.lit (.bool p.w.neg),.lit (.string p.w.mag)]),(265,[.fn 190 [.ptr 1 0,.ptr 2 0]])] [Bs a,.int n,.ptr 3 0] (Ht [.one .i] v.1):=by
 refine Pu (Kx func193 rfl ?_)
 refine Ae 10 (Exists.elim (wV e p a) λv1 hv1=>(gs (Bi (.lit (.tuple #[.agg #[.bool (gB (gT (gT v1.1 0) 0)),.string (gS (gT (gT v1.1 0) 1))],.agg #[.bool (gB (gT (gT v1.1 1) 0)),.string (gS (gT (gT v1.1 1) 1))]])) (.setr [1,2] 0 (.box 219 [.int v1.2])) (Bg (.tmp 9) 190 #[.tmp 10] #[62] κ [.ptr 1 0,.ptr 2 0] κ (λ_ _=>by kernel_rfl) 0 [1,2] κ 219 [.int .i64 e] [.int .i64 v1.2] κ [(263,[.ptr 0 0]),(224,[.bool p.u.neg,.lit (.string p.u.mag),.bool p.v.neg,.lit (.string p.v.mag),.bool p.w.neg,.lit (.string p.w.mag)])] κ [(263,[.ptr 0 0]),(224,[.bool p.u.neg,.lit (.string p.u.mag),.bool p.v.neg,.lit (.string p.v.mag),.bool p.w.neg,.lit (.string p.w.mag)])] κ [Bs a,.ptr 1 0,.ptr 2 0] κ (.tuple #[.agg #[.bool (gB (gT (gT v1.1 0) 0)),.string (gS (gT (gT v1.1 0) 1))],.agg #[.bool (gB (gT (gT v1.1 1) 0)),.string (gS (gT (gT v1.1 1) 1))]]) hv1) ·) (Ae 16 (Ff 15 ?_ ?_))))
 exact Ae 4 (Eh (Iw (⟨(gB (gT (gT v1.1 0) 0)),(gS (gT (gT v1.1 0) 1))⟩)) λv2 hv2=>(gs (Aw hv2 ·) (gs (Mm (.int .i64 (Ai (0-(gI v2)))) (.int .i64 (Ai (0-(gI v2)))) ·) (Ae 5 (Re (.int .i64 (Ai (0-(gI v2)))) [.int .i64 v1.2] ⟨rfl,_,rfl⟩)))))
 exact Ae 6 (Eh (Iw (⟨(gB (gT (gT v1.1 1) 0)),(gS (gT (gT v1.1 1) 1))⟩)) λv3 hv3=>(gs (Aw hv3 ·) (gs (Mm (.int .i64 (Ai (0-(gI v3)))) (.int .i64 (Ai (0-(gI v3)))) ·) (Ae 4 (Re (.int .i64 (Ai (0-(gI v3)))) [.int .i64 v1.2] ⟨rfl,_,rfl⟩)))))
theorem Aag (e:Int) (l:Vs) (p:Sq) (h0:l.n<=64):∃v:Value×Int,mE Tryz.prog 151 219 [.int .i64 e] [.int .i64 v.2] [] [.ptr 0 0,Dj l,sqA p] (Ht [.one .i] v.1):=by
 refine Pu (Kx func151 rfl ?_)
 refine Ae 19 (mH func53 (Ae 17 (mH func25 (Ae 13 (Kl (Ae 3 (gs (vnm [4,5,6,7,16] ·) (vC func52 λsp3 sp3p sp3a sp3b=>(Ae 8 (Vy [0,1,6,7,8] (λm s=>∃i iw ie,m=l.n-i/\(i<=l.n)/\s=⟨[(0,.yld 9),(1,.ptr 8 0),(6,Dj l),(7,.int (l.n:Int)),(8,.int (i:Int))],[(0,.box 219 [.int ie]),(1,.box 263 [.ptr 0 0]),(2,.box 224 [.bool p.u.neg,.lit (.string p.u.mag),.bool p.v.neg,.lit (.string p.v.mag),.bool p.w.neg,.lit (.string p.w.mag)]),(3,.box 265 [.fn 190 [.ptr 1 0,.ptr 2 0]]),(4,.box 115 [.fn 192 [.ptr 3 0,.ptr 1 0]]),(5,.box 117 [.fn 193 [.ptr 3 0]]),(6,.box 3 [.int 0]),(7,.box 3 [.int iw]),(8,.box 23 [Dj l]),(9,.loop .ready none sp3 [(4,.ptr 4 0),(5,.ptr 5 0),(6,.ptr 6 0),(7,.ptr 7 0),(16,.fn 52 [.ptr 8 0])] 77)],10,35⟩) (l.n-0) ⟨0,0,e,rfl,Nat.zero_le _,κ⟩ ?_))))))))))
 rintro _ _ ⟨i,iw,ie,rfl,hF,rfl⟩ hJ1
 refine Ae 6 (Jf 9 ((i:Int)<(l.n:Int)) (λhx5 hx5d=>?_) (λhx5 hx5d=>?_))
 refine Ae 8 (gs (Iz i l.n ·) (Ae 7 ?_))
 have hm5:=Nat.mod_lt (i+1) (by omega:0<l.n)
 refine gs (Dg [(2,.int ((i+1:Nat):Int),.none),(5,.int (((i+1)%l.n:Nat):Int),.none),(6,Dx (Dj l) ((i+1)%l.n),.none)] [0,1,4,5,6,7,8] ⟨As (Bb (v:= .int .i64 (IntKind.wrap .i64 ((i:Int)+1))) (v':= .int .i64 ((i+1:Nat):Int)) _ κ rfl κ (λw=>by kernel_rfl) (congrArg (Value.int .i64) ((IntWalk.i64_in _ ω).trans ω))),qE ((i+1:Nat):Int) (l.n:Int) (((i+1)%l.n:Nat):Int) ω rfl,Pc ((i+1)%l.n) l.n,trivial⟩ ·) (Ae 14 (vF sp3p sp3a (Ae 10 (vE sp3b ?_))))
 refine Ae 6 (Exists.elim (Ag7 ie p (⟨(l.f i).x,(l.f i).y,0⟩) (⟨(l.f ((i+1)%l.n)).x,(l.f ((i+1)%l.n)).y,0⟩)) λv8 hv8=>(gs (Bi (.int (gI v8.1)) (.setr [1,2,3] 0 (.box 219 [.int v8.2])) (Bg (.tmp 19) 192 #[.tmp 20,.tmp 21] #[62,62] κ [.ptr 3 0,.ptr 1 0] κ (λ_ _=>by kernel_rfl) 0 [1,2,3] κ 219 [.int .i64 ie] [.int .i64 v8.2] κ [(263,[.ptr 0 0]),(224,[.bool p.u.neg,.lit (.string p.u.mag),.bool p.v.neg,.lit (.string p.v.mag),.bool p.w.neg,.lit (.string p.w.mag)]),(265,[.fn 190 [.ptr 1 0,.ptr 2 0]])] κ [(263,[.ptr 0 0]),(224,[.bool p.u.neg,.lit (.string p.u.mag),.bool p.v.neg,.lit (.string p.v.mag),.bool p.w.neg,.lit (.string p.w.mag)]),(265,[.fn 190 [.ptr 1 0,.ptr 2 0]])] κ [.lit (.agg #[.int .i64 ((l.f i).x),.int .i64 ((l.f i).y),.int .i64 0]),.lit (.agg #[.int .i64 ((l.f ((i+1)%l.n)).x),.int .i64 ((l.f ((i+1)%l.n)).y),.int .i64 0]),.ptr 3 0,.ptr 1 0] κ (.int .i64 (gI v8.1)) hv8) ·) (Ae 4 (Exists.elim (aR v8.2 p (⟨(l.f i).x,(l.f i).y,0⟩) 0) λv9 hv9=>(Exists.elim (aR v9.2 p (⟨(l.f i).x,(l.f i).y,0⟩) 1) λv10 hv10=>(Exists.elim (aR v10.2 p (⟨(l.f ((i+1)%l.n)).x,(l.f ((i+1)%l.n)).y,0⟩) 0) λv11 hv11=>(Exists.elim (aR v11.2 p (⟨(l.f ((i+1)%l.n)).x,(l.f ((i+1)%l.n)).y,0⟩) 1) λv12 hv12=>(gs (Dg [(2,.int (gI v9.1),(.setr [1,2,3] 0 (.box 219 [.int v9.2]))),(5,.int (gI v10.1),(.setr [1,2,3] 0 (.box 219 [.int v10.2]))),(8,.int (gI v11.1),(.setr [1,2,3] 0 (.box 219 [.int v11.2]))),(11,.int (gI v12.1),(.setr [1,2,3] 0 (.box 219 [.int v12.2])))] [6,7,10,11,12,13,14] ⟨As (Bg (.tmp 23) 193 #[.tmp 24,(.const (.int .i64 0))] #[62,3] κ [.ptr 3 0] κ (λ_ _=>by kernel_rfl) 0 [1,2,3] κ 219 [.int .i64 v8.2] [.int .i64 v9.2] κ [(263,[.ptr 0 0]),(224,[.bool p.u.neg,.lit (.string p.u.mag),.bool p.v.neg,.lit (.string p.v.mag),.bool p.w.neg,.lit (.string p.w.mag)]),(265,[.fn 190 [.ptr 1 0,.ptr 2 0]])] κ [(263,[.ptr 0 0]),(224,[.bool p.u.neg,.lit (.string p.u.mag),.bool p.v.neg,.lit (.string p.v.mag),.bool p.w.neg,.lit (.string p.w.mag)]),(265,[.fn 190 [.ptr 1 0,.ptr 2 0]])] κ [.lit (.agg #[.int .i64 ((l.f i).x),.int .i64 ((l.f i).y),.int .i64 0]),.int 0,.ptr 3 0] κ (.int .i64 (gI v9.1)) hv9),As (Bg (.tmp 26) 193 #[.tmp 27,(.const (.int .i64 1))] #[62,3] κ [.ptr 3 0] κ (λ_ _=>by kernel_rfl) 0 [1,2,3] κ 219 [.int .i64 v9.2] [.int .i64 v10.2] κ [(263,[.ptr 0 0]),(224,[.bool p.u.neg,.lit (.string p.u.mag),.bool p.v.neg,.lit (.string p.v.mag),.bool p.w.neg,.lit (.string p.w.mag)]),(265,[.fn 190 [.ptr 1 0,.ptr 2 0]])] κ [(263,[.ptr 0 0]),(224,[.bool p.u.neg,.lit (.string p.u.mag),.bool p.v.neg,.lit (.string p.v.mag),.bool p.w.neg,.lit (.string p.w.mag)]),(265,[.fn 190 [.ptr 1 0,.ptr 2 0]])] κ [.lit (.agg #[.int .i64 ((l.f i).x),.int .i64 ((l.f i).y),.int .i64 0]),.int 1,.ptr 3 0] κ (.int .i64 (gI v10.1)) hv10),As (Bg (.tmp 29) 193 #[.tmp 30,(.const (.int .i64 0))] #[62,3] κ [.ptr 3 0] κ (λ_ _=>by kernel_rfl) 0 [1,2,3] κ 219 [.int .i64 v10.2] [.int .i64 v11.2] κ [(263,[.ptr 0 0]),(224,[.bool p.u.neg,.lit (.string p.u.mag),.bool p.v.neg,.lit (.string p.v.mag),.bool p.w.neg,.lit (.string p.w.mag)]),(265,[.fn 190 [.ptr 1 0,.ptr 2 0]])] κ [(263,[.ptr 0 0]),(224,[.bool p.u.neg,.lit (.string p.u.mag),.bool p.v.neg,.lit (.string p.v.mag),.bool p.w.neg,.lit (.string p.w.mag)]),(265,[.fn 190 [.ptr 1 0,.ptr 2 0]])] κ [.lit (.agg #[.int .i64 ((l.f ((i+1)%l.n)).x),.int .i64 ((l.f ((i+1)%l.n)).y),.int .i64 0]),.int 0,.ptr 3 0] κ (.int .i64 (gI v11.1)) hv11),As (Bg (.tmp 32) 193 #[.tmp 33,(.const (.int .i64 1))] #[62,3] κ [.ptr 3 0] κ (λ_ _=>by kernel_rfl) 0 [1,2,3] κ 219 [.int .i64 v11.2] [.int .i64 v12.2] κ [(263,[.ptr 0 0]),(224,[.bool p.u.neg,.lit (.string p.u.mag),.bool p.v.neg,.lit (.string p.v.mag),.bool p.w.neg,.lit (.string p.w.mag)]),(265,[.fn 190 [.ptr 1 0,.ptr 2 0]])] κ [(263,[.ptr 0 0]),(224,[.bool p.u.neg,.lit (.string p.u.mag),.bool p.v.neg,.lit (.string p.v.mag),.bool p.w.neg,.lit (.string p.w.mag)]),(265,[.fn 190 [.ptr 1 0,.ptr 2 0]])] κ [.lit (.agg #[.int .i64 ((l.f ((i+1)%l.n)).x),.int .i64 ((l.f ((i+1)%l.n)).y),.int .i64 0]),.int 1,.ptr 3 0] κ (.int .i64 (gI v12.1)) hv12),trivial⟩ ·) (Ae 7 (tsh 13 37 false [6,7,10,12,14,48] ?_ (λhS13=>?_)))))))))))
 refine Ae 9 (tsh 10 52 false [7,10,12,14,49] ?_ (λhS14=>?_))
 refine Ae 6 (tsh 10 65 false [7,62] ?_ (λhS15=>?_))
 exact Ae 4 (Qc (Ae 8 (gs (Dm ((i:Int)+1) ((i+1:Nat):Int) ·) (Ae 2 (Hd [0,1,6,7,8] [(0,0),(1,1),(2,2),(3,3),(4,4),(5,5),(6,6),(7,7),(8,8),(9,9)] 10 [] trivial (hJ1 _ _ (by omega:l.n-(i+1)<l.n-i) ⟨i+1,iw,v12.2,rfl,ω,rfl⟩))))))
 refine Ff 65 ?_ ?_
 refine Ae 4 (Ff 69 ?_ ?_)
 refine Ae 6 (Ff 62 ?_ ?_)
 exact Ae 8 (Qc (Ae 8 (gs (Dm ((i:Int)+1) ((i+1:Nat):Int) ·) (Ae 2 (Hd [0,1,6,7,8] [(0,0),(1,1),(2,2),(3,3),(4,4),(5,5),(6,6),(7,7),(8,8),(9,9)] 10 [] trivial (hJ1 _ _ (by omega:l.n-(i+1)<l.n-i) ⟨i+1,(Ai (iw-1)),v12.2,rfl,ω,rfl⟩))))))
 exact Uh [7,62] hS15
 exact Ae 6 (Uh [7,62] hS15)
 exact Ae 10 (Uh [7,62] hS15)
 refine Ff 52 ?_ ?_
 refine Ae 4 (Ff 56 ?_ ?_)
 refine Ae 6 (Ff 49 ?_ ?_)
 exact Ae 8 (Qc (Ae 8 (gs (Dm ((i:Int)+1) ((i+1:Nat):Int) ·) (Ae 2 (Hd [0,1,6,7,8] [(0,0),(1,1),(2,2),(3,3),(4,4),(5,5),(6,6),(7,7),(8,8),(9,9)] 10 [] trivial (hJ1 _ _ (by omega:l.n-(i+1)<l.n-i) ⟨i+1,(Ai (iw+1)),v12.2,rfl,ω,rfl⟩))))))
 exact Uh [7,10,12,14,49] hS14
 exact Ae 6 (Uh [7,10,12,14,49] hS14)
 exact Ae 10 (Uh [7,10,12,14,49] hS14)
 refine Ff 37 ?_ ?_
 refine Ae 6 (Ff 43 ?_ ?_)
 refine Ae 7 (Ff 48 ?_ ?_)
 exact Ae 9 (Qc (Ae 9 (aF (Ae 3 (Kl (Ae 4 (Re (.int .i64 0) [.int .i64 v12.2] ⟨rfl,_,rfl⟩)))))))
 exact Uh [6,7,10,12,14,48] hS13
 exact Ae 7 (Uh [6,7,10,12,14,48] hS13)
 exact Ae 13 (Uh [6,7,10,12,14,48] hS13)
 refine Ae 5 (aF (Ae 9 (Ff 76 ?_ ?_)))
 exact Ae 8 (Kl (Ae 4 (Re (.int .i64 1) [.int .i64 ie] ⟨rfl,_,rfl⟩)))
 exact Ae 9 (Kl (Ae 4 (Re (.int .i64 (-1)) [.int .i64 ie] ⟨rfl,_,rfl⟩)))
end Go.Proofs.YtikinphpaiajfaaGreat