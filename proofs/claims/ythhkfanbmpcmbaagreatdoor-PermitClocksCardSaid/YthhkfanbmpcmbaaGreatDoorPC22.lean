/- Part 22 of the proof of PC.clocks_holds, joined by program: no condition beyond the row's own. -/
import Derived.Test.YthhkfanbmpcmbaaGreatDoorPC21
set_option maxRecDepth 100000
set_option maxHeartbeats 40000000
namespace Go.Proofs.YthhkfanbmpcmbaaGreatDoor
open Go.Proofs.Tryz
open Go.RowKit
theorem tK (l:List Int) {i:Nat} (h:i<l.length):(Cv l).getD i undef= .int .i64 (l.getD i 0):=by
 rw[List.getD_eq_getElem?_getD,Sm l i h,List.getD_eq_getElem?_getD,List.getElem?_eq_getElem h];rfl
theorem dB {w:World} {D:Nat->Prop} {l:List Int} {v:Value} (h:Ck w D 1 v l.length (Cv l)) {E:Aq} (hw:E.w=w) (hD:∀b,D b->E.D b):VR E (Be l) v:=
 Vv h hw hD λi j hi hj=>by
  obtain rfl:j=0:=by omega
  rw[Nat.mul_one,Nat.add_zero,tK l hi]
  exact .lit _ _
def Sg.none:Sg:=⟨0,0,0,[],[],[]⟩
abbrev Hs (l:List Sg):AV:= .sl 6 l.length λi=>Pm (l.getD i Sg.none)
theorem AcO {w:World} {D:Nat->Prop} {l:List Sg} {v:Value} (h:yK w D v l) {E:Aq} (hw:E.w=w) (hD:∀b,D b->E.D b):VR E (Hs l) v:=by
 obtain⟨cs,h1,h2⟩:=h
 refine Vv h1 hw hD λi j hi hj=>?_
 obtain⟨a,⟨vx,vy,vz,rfl,hx,hy,hz⟩,ha⟩:=h2.at_ hi
 have e:l.getD i Sg.none=l[i]:=by rw[List.getD_eq_getElem?_getD,List.getElem?_eq_getElem hi];rfl
 have g:∀u,[Value.int .i64 l[i].f,.int .i64 l[i].t,.int .i64 l[i].o,vx,vy,vz][j]?=some u->cs.getD (i*6+j) undef=u:=λu hu=>by
  rw[List.getD_eq_getElem?_getD,ha j u hu];rfl
 rw[e]
 match j,hj with
 |0,_=>rw[g _ rfl];exact .lit _ _
 |1,_=>rw[g _ rfl];exact .lit _ _
 |2,_=>rw[g _ rfl];exact .lit _ _
 |3,_=>rw[g _ rfl];exact dB (E:=E.fz) hx hw hD
 |4,_=>rw[g _ rfl];exact dB (E:=E.fz) hy hw hD
 |5,_=>rw[g _ rfl];exact dB (E:=E.fz) hz hw hD
abbrev Fm (v:V3):AV:= .lit (.agg #[.int .i64 v.x,.int .i64 v.y,.int .i64 v.z])
theorem xP (v:V3):AF Tryz.prog 47 [Fm v] (.bool (Et 1048576 [v.x,v.y,v.z])):=cI (vs:=[_]) λw=>bN v.x v.y v.z w
theorem oA (x y z:Int) (w:World):
  Calls Tryz.prog 114 #[.agg #[.int .i64 x,.int .i64 y,.int .i64 z]] w λe w'=>e= .returned (.bool (Et 16777216 [x,y,z]))/\Below w.heap.size w w':=by
 go_enter func114,ntmps114
 go_wp2_with fail
 refine(Xj _ ?_ ?_ [x,y,z] _ _ ?_ ?_).mono ?_
 · omega
 · omega
 · simp
 · exact Br.new1 _ [.int .i64 x,.int .i64 y,.int .i64 z] 3 _ 0 _ 1 3 rfl (by simp) (Nat.zero_le _) (by simp)
 ·
  rintro e w1 ⟨rfl,rfl⟩
  go_wp2_with fail
  go_ret
  exact⟨rfl,((Below.refl _ _).alloc (Nat.le_refl _) _).alloc (by simp) _⟩
theorem rO (v:V3):AF Tryz.prog 114 [Fm v] (.bool (Et 16777216 [v.x,v.y,v.z])):=cI (vs:=[_]) λw=>oA v.x v.y v.z w
abbrev Abx (l:List V3):AV:= .sl 3 l.length λi=>Fm (l.getD i V3.zero)
abbrev nC (l:List ByteArray):AV:= .sl 1 l.length λi=> .lit (.string (l.getD i ByteArray.empty))
abbrev mvA (m:Mv):AV:= .lit (.agg #[.int .i64 m.to.x,.int .i64 m.to.y,.int .i64 m.to.z,.int .i64 m.wait,.int .i64 m.flight,.int .i64 m.rise])
abbrev AfD (l:List Mv):AV:= .sl 6 l.length λi=>mvA (l.getD i Mv.none)
abbrev AbX (a:Ac):AV:= .agg [.lit (.string a.name),.int a.len,AfD a.moves]
abbrev fV (l:List Ac):AV:= .sl 3 l.length λi=>AbX (l.getD i Ac.none)
abbrev Mc (p:Pr):AV:= .agg [nC p.names,Abx p.homes,fV p.acts]
theorem Ts {α:Type} (f:α->List Value) (k:Nat) (hf:∀a,(f a).length=k):∀(l:List α) (i j:Nat) (d:α),i<l.length->j<k->(l.flatMap f).getD (i*k+j) undef=(f (l.getD i d)).getD j undef
 |[],i,j,d,hi,_=>by simp at hi
 |a::l,0,j,d,_,hj=>by
  rw[List.flatMap_cons,List.getD_eq_getElem?_getD,List.getElem?_append_left (by rw[hf];omega)]
  simp[List.getD_eq_getElem?_getD]
 |a::l,i+1,j,d,hi,hj=>by
  rw[List.flatMap_cons,List.getD_eq_getElem?_getD,List.getElem?_append_right (by rw[hf,Nat.succ_mul];omega),hf]
  have:=Ts f k hf l i j d (by simpa using hi) hj
  rw[List.getD_eq_getElem?_getD] at this
  rw[show (i+1)*k+j-k=i*k+j by rw[Nat.succ_mul];omega,this]
  simp[List.getD_eq_getElem?_getD]
theorem Um {α:Type} (f:α->List Value) (k:Nat) (hf:∀a,(f a).length=k):∀l:List α,(l.flatMap f).length=l.length*k
 |[]=>by simp
 |a::l=>by rw[List.flatMap_cons,List.length_append,hf,Um f k hf l,List.length_cons,Nat.succ_mul];omega
theorem vV {E:Aq} {l:List V3} {v:Value} (h:VR E (Abx l) v):Ck E.w E.D 3 v l.length (Ie l):=
 eS h (Ie l) (Uv l) λi j hi hj=>by
  have:=Ts (λv:V3=>[Value.int .i64 v.x,.int .i64 v.y,.int .i64 v.z]) 3 (λ_=>rfl) l i j V3.zero hi hj
  show _=AV.lit ((Ie l).getD (i*3+j) undef)
  unfold Ie
  rw[this]
  match j,hj with
  |0,_=>rfl
  |1,_=>rfl
  |2,_=>rfl
theorem AaA {E:Aq} {l:List Mv} {v:Value} (h:VR E (AfD l) v):Ck E.w E.D 6 v l.length (mvs l):=
 eS h (mvs l) (Um Mv.cells 6 (λ_=>rfl) l) λi j hi hj=>by
  have:=Ts Mv.cells 6 (λ_=>rfl) l i j Mv.none hi hj
  unfold mvs
  rw[this]
  match j,hj with
  |0,_=>rfl
  |1,_=>rfl
  |2,_=>rfl
  |3,_=>rfl
  |4,_=>rfl
  |5,_=>rfl
theorem nD {E:Aq} {l:List ByteArray} {v:Value} (h:VR E (nC l) v):Ck E.w E.D 1 v l.length (eV l):=
 eS h (eV l) (by simp[eV]) λi j hi hj=>by
  obtain rfl:j=0:=by omega
  rw[Nat.mul_one,Nat.add_zero]
  show AV.lit (.string (l.getD i ByteArray.empty))=AV.lit ((eV l).getD i undef)
  simp[eV,List.getD_eq_getElem?_getD,hi]
def Ug:List Ac->(Nat->Value)->List Value
 |[],_=>[]
 |a::l,g=>[.string a.name,.int .i64 a.len,g 0]++Ug l λi=>g (i+1)
theorem Tn:∀(l:List Ac) (g:Nat->Value),(Ug l g).length=l.length*3
 |[],_=>rfl
 |a::l,g=>by rw[Ug,List.length_append,Tn l];simp;omega
theorem fU:∀(l:List Ac) (g:Nat->Value) (i j:Nat),i<l.length->j<3->(Ug l g).getD (i*3+j) undef=[Value.string (l.getD i Ac.none).name,.int .i64 (l.getD i Ac.none).len,g i].getD j undef
 |[],g,i,j,hi,_=>by simp at hi
 |a::l,g,0,j,_,hj=>by
  rw[Ug,List.getD_eq_getElem?_getD,List.getElem?_append_left (by simp;omega)]
  simp[List.getD_eq_getElem?_getD]
 |a::l,g,i+1,j,hi,hj=>by
  rw[Ug,List.getD_eq_getElem?_getD,List.getElem?_append_right (by simp;omega)]
  have:=fU l (λi=>g (i+1)) i j (by simpa using hi) hj
  rw[List.getD_eq_getElem?_getD] at this
  rw[show (i+1)*3+j-[Value.string a.name,.int .i64 a.len,g 0].length=i*3+j by simp;omega,this]
  simp[List.getD_eq_getElem?_getD]
theorem Wt {w:World} {D:Nat->Prop}:∀(l:List Ac) (g:Nat->Value),(∀i,i<l.length->Ck w D 6 (g i) (l.getD i Ac.none).moves.length (mvs (l.getD i Ac.none).moves))->Qx w D l (Ug l g)
 |[],_,_=>rfl
 |a::l,g,h=>⟨_,_,rfl,⟨g 0,rfl,by simpa using h 0 (by simp)⟩,Wt l (λi=>g (i+1)) λi hi=>by simpa using h (i+1) (by simpa using hi)⟩
theorem rZ {E:Aq} {l:List Ac} {v:Value} (h:VR E (fV l) v):∃cs,Ck E.w E.D 3 v l.length cs/\Qx E.w E.D l cs:=by
 unfold fV at h
 generalize hn:l.length=n at h ⊢
 cases h with
 |sl0=>
  have:l=[]:=List.eq_nil_of_length_eq_zero hn
  subst this
  exact⟨[],⟨rfl,.inl ⟨_,_,rfl,rfl⟩⟩,rfl⟩
 |sl _ _ _ _ b q c us hn0 hD hcell hr=>
  refine⟨Ug l λi=>us i 2,⟨by rw[Tn,hn],.inr ⟨b,q,c,rfl,hD,λk u hu=>?_⟩⟩,Wt l _ λi hi=>?_⟩
  obtain⟨hk,he⟩:=List.getElem?_eq_some_iff.1 hu
  rw[Tn,hn] at hk
  obtain⟨d1,d2,d3⟩:=dG hk δ
  have h1:=hcell _ _ d1 d2
  have h2:=hr _ _ d1 d2
  have h3:=fU l (λi=>us i 2) (k/3) (k%3) (by rw[hn];exact d1) d2
  rw[d3,List.getD_eq_getElem?_getD,hu] at h3
  rw[Nat.add_assoc,d3] at h1
  rw[h1]
  congr 1
  have h4:u=[Value.string (l.getD (k/3) Ac.none).name,.int .i64 (l.getD (k/3) Ac.none).len,us (k/3) 2].getD (k%3) undef:=h3
  rw[h4]
  generalize hj:k%3=j at h2 d2
  match j,d2 with
  |0,_=>exact h2.lit_inv
  |1,_=>exact h2.lit_inv
  |2,_=>rfl
  have h2:=hr i 2 ω δ
  exact AaA (E:=E.fz) h2
theorem qF {E:Aq} {p:Pr} {v:Value} (h:VR E (Mc p) v) (hD:∀b,E.D b->b<E.w.heap.size):∃vn vh va,v= .agg #[vn,vh,va]/\Gu E.w E.w.heap.size vn vh va p:=by
 have hrg:∀b,E.D b->rg 0 E.w.heap.size b:=λb hb=>⟨Nat.zero_le _,hD b hb⟩
 cases h with
 |agg _ _ vs hn hr=>
  have g:=VR.tops hr
  have hvs:vs=#[vs.getD 0 undef,vs.getD 1 undef,vs.getD 2 undef]:=by
   apply Array.ext
   simpa using hn
   intro i h1 h2
   have h3:i<3:=by simpa using h2
   match i,h3 with
   |0,_=>simp[Array.getD,h1]
   |1,_=>simp[Array.getD,h1]
   |2,_=>simp[Array.getD,h1]
  obtain⟨cs,k1,k2⟩:=rZ (g 2)
  exact⟨_,_,_,congrArg _ hvs,⟨(nD (g 0)).more hrg,(vV (g 1)).more hrg,cs,k1.more hrg,k2.more hrg⟩⟩
structure yM (p:Pr):Prop where
 names:∀s∈p.names,s.size<=maxLen
 anames:∀a∈p.acts,a.name.size<=maxLen
 acts:p.acts.length<=1000000
 moves:∀a∈p.acts,a.moves.length<=1000000
 lens:∀a∈p.acts,Dd a.len
theorem qA {vs:Array Value} (h:vs.size=1):vs=#[vs.getD 0 undef]:=by
 apply Array.ext
 simpa using h
 intro i h1 h2
 have:i=0:=by simp at h2;exact h2
 subst this
 simp[h1]
theorem Mn (p:Pr) (hp:yM p):AF Tryz.prog 17 [Mc p] (.bool (Ff p)):=Og λE us hD hn hv=>by
 rw[qA hn]
 have h0:=hv 0 (by simp)
 obtain⟨vn,vh,va,e,h1⟩:=qF (E:=E.fz) (p:=p) h0 hD
 rw[e]
 refine(vS p vn vh va E.w h1 hp.names hp.anames hp.acts hp.moves).mono ?_
 rintro e w' ⟨rfl,hb⟩
 exact⟨_,rfl,hb,λ_ _ _ _=> .lit _ _⟩
def Iq (l:List Ac):Nat->Int
 |0=>0
 |k+1=>Iq l k+(l.getD k Ac.none).len
theorem Xp {p:Pr} {k:Nat} {t:Int} {m:List Int}:∀{i:Nat} {l:List Int},Ef p k t m i=some l->∀j,j<i->Pj p k t j=0
 |0,_,_,j,hj=>absurd hj (Nat.not_lt_zero j)
 |i+1,l,h,j,hj=>by
  rw[Ef] at h
  cases h1:Ef p k t m i with
  |none=>rw[h1] at h;cases h
  |some l1=>
   rw[h1] at h
   simp only at h
   split at h
   rename_i hc
   rcases Nat.lt_or_ge j i with hji|hji
   exact Xp h1 j hji
   have:j=i:=by omega
   subst this
   exact hc.1
   cases h
theorem kE {p:Pr}:∀{k:Nat} {t:Int} {m:List Int},Jl p k=some (t,m)->t=Iq p.acts k/\0<=t/\t<=3600000/\∀j,j<k->(0<=Iq p.acts j/\Iq p.acts j<=3600000)/\1<=(p.acts.getD j Ac.none).len/\(p.acts.getD j Ac.none).moves.length=p.names.length/\∀i,i<p.names.length->Pj p j (Iq p.acts j) i=0
 |0,t,m,h=>by
  simp only[Jl,Option.some.injEq,Prod.mk.injEq] at h
  obtain⟨rfl,_⟩:=h
  exact⟨rfl,Int.le_refl _,δ,λj hj=>absurd hj (Nat.not_lt_zero j)⟩
 |k+1,t,m,h=>by
  rw[Jl] at h
  cases h1:Jl p k with
  |none=>rw[h1] at h;cases h
  |some tm=>
   obtain⟨t1,m1⟩:=tm
   rw[h1] at h
   simp only at h
   split at h
   rename_i hc
   cases h2:Ef p k t1 m1 p.names.length with
   |none=>rw[h2] at h;cases h
   |some m2=>
    rw[h2] at h
    simp only[Option.some.injEq,Prod.mk.injEq] at h
    obtain⟨rfl,rfl⟩:=h
    obtain⟨e1,e2,e3,e4⟩:=kE h1
    refine⟨by rw[Iq,e1],ω,ω,λj hj=>?_⟩
    rcases Nat.lt_or_ge j k with hjk|hjk
    exact e4 j hjk
    have:j=k:=by omega
    subst this
    rw[<-e1]
    exact⟨⟨e2,e3⟩,hc.2.1,hc.2.2.2,Xp h2⟩
   cases h
structure AdX (p:Pr):Prop where
 n1:1<=p.names.length/\p.names.length<=64
 homes:p.homes.length=p.names.length
 acts:p.acts.length<=60
 ends:∀j,j<=p.acts.length->0<=Iq p.acts j/\Iq p.acts j<=3600000
 len:∀j,j<p.acts.length->1<=(p.acts.getD j Ac.none).len
 mv:∀j,j<p.acts.length->(p.acts.getD j Ac.none).moves.length=p.names.length
 pe:∀j i,j<p.acts.length->i<p.names.length->Pj p j (Iq p.acts j) i=0
theorem kG {p:Pr} (h:Ff p=true):AdX p:=by
 unfold Ff at h
 simp only[Bool.and_eq_true,decide_eq_true_eq] at h
 obtain⟨⟨h1,h2⟩,h3⟩:=h
 unfold Om at h1
 simp only[Bool.and_eq_true,decide_eq_true_eq] at h1
 obtain⟨tm,ht⟩:=Option.isSome_iff_exists.1 h3
 obtain⟨t,m⟩:=tm
 obtain⟨e1,e2,e3,e4⟩:=kE ht
 refine⟨⟨h1.1.1.1,h1.1.1.2⟩,h1.1.2,h2,λj hj=>?_,λj hj=>(e4 j hj).2.1,λj hj=>(e4 j hj).2.2.1,λj i hj hi=>(e4 j hj).2.2.2 i hi⟩
 rcases Nat.lt_or_ge j p.acts.length with hlt|hge
 exact(e4 j hlt).1
 have:j=p.acts.length:=by omega
 subst this
 rw[<-e1];exact⟨e2,e3⟩
theorem getD_in {l:List Ac} (h:∀a∈l,Dd a.len) (i:Nat):Dd (l.getD i Ac.none).len:=by
 rw[List.getD_eq_getElem?_getD]
 cases hi:l[i]? with
 |none=>exact⟨δ,δ⟩
 |some a=>exact h a (List.mem_of_getElem? hi)
theorem rH (p:Pr) (hp:yM p) (h:Ff p=true):AF Tryz.prog 18 [Mc p] (.lit (.tuple #[.int .i64 (Iq p.acts p.acts.length),.int .i64 0])):=by
 have ho:=kG h
 have hac:=ho.acts
 refine As func18 rfl λB D0 hA0=>?_
 refine Ab 11 (Aw (Mn p hp) (Ab 3 (Lj 9 (!Ff p) false (by rw[h];rfl) (Ab 18 (kK [4,11,12,13] p.acts.length (λi=>True) (λi=>⟨[(4,.int (Iq p.acts i)),(11,fV p.acts),(12,.int (p.acts.length:Int)),(13,.int (i:Int))],[(0,.box 35 [nC p.names,Abx p.homes,fV p.acts])],1,23⟩) trivial (λi hin hFi J1 hJ1=>?_))))))
 refine Ab 6 (Mf 14 ((i:Int)<(p.acts.length:Int)) (λhx1 hx1d=>?_) (λhx1 hx1d=>?_))
 ·
  refine Ab 5 ?_
  have he2:=ho.ends i ω
  have hl:=getD_in hp.lens i
  refine Ab 2 (Ob i p.acts.length (Ab 9 (Cn (.int .i64 (IntKind.wrap .i64 (Iq p.acts i+(p.acts.getD i Ac.none).len))) (.int .i64 (Iq p.acts (i+1))) ?_ (congrArg (Value.int .i64) ((IntWalk.i64_in _ (by have he3:=ho.ends (i+1) ω;rw[Iq] at he3;omega)).trans rfl)))))
  exact Ab 5 (Ig ((i:Int)+1) ((i+1:Nat):Int) (Ab 2 (Ys [4,11,12,13] [(0,0)] 1 0 hA0 [] trivial (hJ1 ω trivial))))
 ·
  exact Ab 14 (Fu (.lit (.tuple #[.int .i64 (Iq p.acts i),.int .i64 0])) (congrArg (λq=>AV.lit (.tuple #[.int .i64 (Iq p.acts q),.int .i64 0])) (show i=p.acts.length by omega)))
theorem AeG {s:Sg} {a d:Int} (ho:s.o≠0) (hd:d≠0):plG s a d≠0:=by
 have h0:(fC s d).natAbs≠0:=by
  unfold fC
  rw[Int.natAbs_mul,Int.natAbs_pow]
  have h1:0<s.o.natAbs:=by omega
  have h2:0<d.natAbs^5:=Nat.pow_pos ω
  exact Nat.ne_of_gt (Nat.mul_pos h1 h2)
 have g:∀x y:Int,x.natAbs≠0->(Nat.gcd x.natAbs y.natAbs:Int).natAbs≠0:=λx y hx=>by
  rw[Int.natAbs_natCast]
  exact Nat.ne_of_gt (Nat.gcd_pos_of_pos_left _ ω)
 have h:=g _ (plZ s a d) (g _ (plY s a d) (g _ (vZ s a d) h0))
 unfold plG
 omega
theorem Wf (s:Sg) (a d:Int) (hs:Yv s) (ho:Gz s) (ha:Dd a) (hd:Dd d) (h0:d≠0):AF Tryz.prog 103 [Pm s,.int a,.int d] (eH (Ht s a d)):=
 xM s a d hs ho.2.1.2.1 ho.2.2.1.2.1 ho.2.2.2.1.2.1 ha hd (AeG (by have:=ho.1.2.2.2.1;omega) h0)
def aH (s u:Sg):Prop:=s.t=u.f/\Ht s 1 1=Ht u 0 1
instance (s u:Sg):Decidable (aH s u):=by unfold aH;infer_instance
def Wp (l:List Sg):Prop:=(∀i,i<l.length->Gz (l.getD i Sg.none)/\(0<i->aH (l.getD (i-1) Sg.none) (l.getD i Sg.none)))/\1<=l.length/\l.length<=256
instance (l:List Sg):Decidable (Wp l):=by unfold Wp;infer_instance
def yL (l:List Sg):Prop:=l.length<=1000000/\∀i,Yv (l.getD i Sg.none)
theorem Aao:Dd 0:=⟨δ,δ⟩
theorem mQ:Dd 1:=⟨δ,δ⟩
theorem xC (s u:Sg) (hs:Yv s) (hu:Yv u) (ho:Gz s) (hp:Gz u):AF Tryz.prog 79 [Pm s,Pm u] (.bool (bP (aH s u))):=by
 refine As func79 rfl λB D0 hA0=>?_
 refine Ab 8 (vsp (s.t=u.f) (λhx1 hx1d=>?_) (λhx1 hx1d=>?_))
 ·
  exact Fa [(4,.bool true,.none),(7,_,.none),(9,_,.none),(10,.bool (decide (Ht s 1 1=Ht u 0 1)),.none)] [4] ⟨kbD hx1,Cx (Wf s 1 1 hs ho mQ mQ δ),Cx (Wf u 0 1 hu hp Aao mQ δ),Bc (AcL 181 181 (.tmp 12) (.tmp 14) κ _ _ κ κ κ (decide (Ht s 1 1=Ht u 0 1)) (Acp (Ht s 1 1) (Ht u 0 1))),trivial⟩ (Ab 2 (Fu (.bool (decide (Ht s 1 1=Ht u 0 1))) (congrArg AV.bool (if hz:Ht s 1 1=Ht u 0 1 then (decide_eq_true hz).trans (cW ⟨by assumption,hz⟩).symm else (decide_eq_false hz).trans (Im (λg=>hz g.2)).symm))))
 ·
  exact Fa [(4,.bool false,.none)] [4] ⟨kbD hx1,trivial⟩ (Ab 2 (Fu (.bool false) (congrArg AV.bool (Im (λg=>absurd g.1 (by assumption))).symm)))
theorem cM (l:List Sg) (hl:yL l):AF Tryz.prog 51 [Hs l] (.bool (bP (Wp l))):=by
 have hln:=hl.1
 refine As func51 rfl λB D0 hA0=>?_
 refine Ab 14 (kK [0,5,6,7] l.length (λi=>∀q,q<i->Gz (l.getD q Sg.none)/\(0<q->aH (l.getD (q-1) Sg.none) (l.getD q Sg.none))) (λi=>⟨[(0,Hs l),(5,Hs l),(6,.int ((l).length:Int)),(7,.int (i:Int))],[],0,38⟩) (λq hq=>absurd hq (Nat.not_lt_zero q)) (λi hin hFi J1 hJ1=>?_))
 refine Ab 6 (Mf 8 ((i:Int)<((l).length:Int)) (λhx1 hx1d=>?_) (λhx1 hx1d=>?_))
 ·
  refine Ab 8 (Ob i ((l).length) (Ab 7 (vsp (Gz (l.getD i Sg.none)) (λhx2 hx2d=>?_) (λhx2 hx2d=>?_))))
  ·
   refine vsp ((0:Int)<(i:Int)) (λhx3 hx3d=>?_) (λhx3 hx3d=>?_)
   ·
    refine Fa [(1,.bool true,.none),(5,.bool true,.none),(9,.int ((i-1:Nat):Int),.none),(10,Eb (Hs l) (i-1),.none),(13,_,.none)] [0,5,6,7,28] ⟨kbC hx2 (Cx (Oh (l.getD i Sg.none) (hl.2 i))),kbD hx3,Bc (Cg (v:= .int .i64 (IntKind.wrap .i64 ((i:Int)-1))) (v':= .int .i64 ((i-1:Nat):Int)) _ κ rfl κ (λw=>by kernel_rfl) (congrArg (Value.int .i64) ((IntWalk.i64_in _ ω).trans ω))),Nf (i-1) ((l).length),Cx (xC _ _ (hl.2 (i-1)) (hl.2 i) (hFi (i-1) ω).1 (of_decide_eq_true (by assumption))),trivial⟩ (Ab 1 (Afc 28 (bP (aH (l.getD (i-1) Sg.none) (l.getD i Sg.none))) (λhx4=>?_) (λhx4=>?_)))
    ·
     exact Ab 5 (Ig ((i:Int)+1) ((i+1:Nat):Int) (Ab 2 (Ys [0,5,6,7] [] 0 0 hA0 [] trivial (hJ1 ω (λq hq=>(Nat.lt_or_ge q i).elim (λg=>hFi q g) λg=>by have e:q=i:=(ω);subst e;exact⟨of_decide_eq_true hx2,λ_=>Af5 hx4⟩)))))
    ·
     exact Ab 12 (Fu (.bool false) (congrArg AV.bool (Im (by rintro⟨g1,g2,g3⟩;first|omega|exact Aea hx4 ((g1 i ω).2 ω)|exact absurd (g1 i ω).1 (of_decide_eq_false hx2))).symm))
   ·
    exact Fa [(1,.bool true,.none),(5,.bool false,.none)] [0,5,6,7,28] ⟨kbC hx2 (Cx (Oh (l.getD i Sg.none) (hl.2 i))),kbD hx3,trivial⟩ (Ab 6 (Ig ((i:Int)+1) ((i+1:Nat):Int) (Ab 2 (Ys [0,5,6,7] [] 0 0 hA0 [] trivial (hJ1 ω (λq hq=>(Nat.lt_or_ge q i).elim (λg=>hFi q g) λg=>by have e:q=i:=(ω);subst e;exact⟨of_decide_eq_true hx2,λhz=>absurd hz ω⟩))))))
  ·
   exact Fa [(1,.bool false,.none)] [0,5,6,7,28] ⟨kbC hx2 (Cx (Oh (l.getD i Sg.none) (hl.2 i))),trivial⟩ (Ab 13 (Fu (.bool false) (congrArg AV.bool (Im (by rintro⟨g1,g2,g3⟩;first|omega|exact absurd (g1 i ω).1 (of_decide_eq_false hx2))).symm)))
 ·
  refine Ab 12 (Mf 33 ((1:Int)<=((l).length:Int)) (λhx5 hx5d=>?_) (λhx5 hx5d=>?_))
  ·
   exact Ab 8 (Fu (.bool (decide (((l).length:Int)<=256))) (congrArg AV.bool (if hz:l.length<=256 then (decide_eq_true ω).trans (cW ⟨λq hq=>hFi q ω,ω,ω⟩).symm else (decide_eq_false ω).trans (Im (λg=>hz g.2.2)).symm)))
  ·
   exact Ab 8 (Fu (.bool false) (congrArg AV.bool (Im (by rintro⟨g1,g2,g3⟩;first|omega)).symm))
def Gg (c:Nat->Int):Nat->Nat
 |0=>0
 |n+1=>if c n=0 then Gg c n else n+1
abbrev Cj (n:Nat) (c:Nat->Int):AV:= .sl 2 n λi=>WA (c i)
abbrev AdD (n:Nat) (c:Nat->Int):AV:= .slc 2 n λi=>WA (c i)
theorem Ps (c:Nat->Int):∀n,Gg c n<=n
 |0=>Nat.le_refl _
 |n+1=>by
  unfold Gg
  split
  exact Nat.le_succ_of_le (Ps c n)
  exact Nat.le_refl _
theorem Rk (c:Nat->Int):∀n,Gg c n=0\/c (Gg c n-1)≠0
 |0=> .inl rfl
 |n+1=>by
  unfold Gg
  split
  exact Rk c n
  rename_i h;exact .inr h
theorem vM {c:Nat->Int} {n:Nat} (h:n=0\/c (n-1)≠0):Gg c n=n:=by
 cases n with
 |zero=>rfl
 |succ n=>
  unfold Gg
  rcases h with h|h
  cases h
  exact if_neg h
theorem Ua {x:Int}:x.sign=0↔x=0:=Int.sign_eq_zero_iff_zero
theorem nW {c:Nat->Int} {q:Nat} (hq:0<q) (h:(c (q-1)).sign=0):Gg c q=Gg c (q-1):=by
 obtain⟨k,rfl⟩:∃k,q=k+1:=⟨q-1,ω⟩
 rw[Nat.add_sub_cancel] at h ⊢
 rw[Gg,if_pos (Ua.1 h)]
theorem Ym {c:Nat->Int} {q n:Nat} (h0:Gg c q=Gg c n) (h:q=0\/(c (q-1)).sign≠0):q=Gg c n:=by
 rw[<-h0]
 exact(vM (h.imp id λh e=>h (Ua.2 e))).symm
theorem oM (n:Nat) (c:Nat->Int) (hn:n<=1000000) (hc:∀i,i<n->Cb (c i)):AF Tryz.prog 169 [AdD n c] (Cj (Gg c n) c):=by
 refine As func169 rfl λB D0 hA0=>?_
 refine Ab 7 (vlp [0] (λm s=>∃m1,m=m1+1/\(m1<=n/\Gg c m1=Gg c n)/\s=⟨[(0,AdD m1 c)],[],0,22⟩) (n+1) ⟨n,rfl,⟨Nat.le_refl _,rfl⟩,κ⟩ ?_)
 rintro _ _ ⟨m1,rfl,hF,rfl⟩ J1 hJ1
 obtain⟨hF1,hF2⟩:=hF
 refine Ab 7 (Mf 6 ((0:Int)<((m1:Nat):Int)) (λhx1 hx1d=>?_) (λhx1 hx1d=>?_))
 ·
  refine Ab 3 (Ig (((m1:Nat):Int)-1) ((m1-1:Nat):Int) (Ob (m1-1) m1 (Ab 1 (Aw (Lo (c (m1-1)) (hc _ ω)) (Ab 4 (Mf 15 ((c (m1-1)).sign=0) (λhx2 hx2d=>?_) (λhx2 hx2d=>?_)))))))
  ·
   exact Ab 8 (Ig (((m1:Nat):Int)-1) ((m1-1:Nat):Int) (Bb (.slc 2 (m1-1) (λi0=> .lit (Ak (c i0)))) .none (Zf 211 (.tmp 16) (.tmp 19) κ underlying211 2 m1 sizeOf174 (λi0=> .lit (Ak (c i0))) κ (m1-1) ((m1-1:Nat):Int) κ ω ω) (Ab 3 (vrd [0] (hJ1 _ _ (by omega:m1-1+1<m1+1) ⟨m1-1,rfl,⟨ω,(nW ω hx2d).symm.trans hF2⟩,rfl⟩)))))
  ·
   exact Ab 6 (vwk 0 (Ab 7 (Fu (.sl 2 m1 (λi0=> .lit (Ak (c i0)))) (congrArg (λz=>Cj z c) (Ym hF2 ω)))))
 ·
  exact Ab 17 (vwk 0 (Ab 7 (Fu (.sl 2 m1 (λi0=> .lit (Ak (c i0)))) (congrArg (λz=>Cj z c) (Ym hF2 ω)))))
theorem fF (x:Int):AFM Tryz.prog 212 267 [.int .i64 0] [WA x,.int 0] (Ak x):=by
 refine mM func212 rfl λB D0 hA0=>?_
 exact Ab 32 (Afb (.lit (Ak x)) κ)
theorem Vd (x y:Int) (hx:Cb x) (hy:Cb y) (hz:Cb (x*y)):AFM Tryz.prog 174 267 [.int .i64 0] [WA x,WA y] (Ak (x*y)):=by
 refine mM func174 rfl λB D0 hA0=>?_
 exact Ab 8 (Fa [(5,_,.none),(8,.lit (Ak (x*y)),(.set 0 (.box 267 [.int 0])))] [6] ⟨Cx (Vk x y hx hy hz),Bc (He 212 #[.tmp 9,.tmp 13,.tmp 14] #[265,174,23] κ (λ_ _=>by kernel_rfl) 0 267 [.int .i64 0] κ [.lit (Ak (x*y)),.int 0] κ κ (Ak (x*y)) (fF (x*y))),trivial⟩ (Ab 2 (Afb (.lit (Ak (x*y))) κ)))
theorem oF (x y:Int) (hx:Cb x) (hy:Cb y) (hz:Cb (x+y)):AFM Tryz.prog 175 267 [.int .i64 0] [WA x,WA y] (Ak (x+y)):=by
 refine mM func175 rfl λB D0 hA0=>?_
 exact Ab 8 (Fa [(5,_,.none),(8,.lit (Ak (x+y)),(.set 0 (.box 267 [.int 0])))] [6] ⟨Cx (cO x y hx hy hz),Bc (He 212 #[.tmp 9,.tmp 13,.tmp 14] #[265,174,23] κ (λ_ _=>by kernel_rfl) 0 267 [.int .i64 0] κ [.lit (Ak (x+y)),.int 0] κ κ (Ak (x+y)) (fF (x+y))),trivial⟩ (Ab 2 (Afb (.lit (Ak (x+y))) κ)))
theorem AfU {c:Nat->Int} {n:Nat} (hl:n=0\/c (n-1)≠0) (h:n≠0):(!decide ((c (n-1)).sign=0))=true:=by
 have h9:¬(c (n-1)).sign=0:=λe=>by
  rcases hl with g|g
  exact h g
  exact g (Ua.1 e)
 rw[decide_eq_false h9];rfl
theorem Mm (n:Nat) (c:Nat->Int) (hn:n<=25) (hc:∀i,i<n->Cb (c i)) (hl:n=0\/c (n-1)≠0):AF Tryz.prog 170 [Cj n c] (.bool true):=by
 refine As func170 rfl λB D0 hA0=>?_
 refine Ab 14 (kK [0,5,6,7] n (λi=>True) (λi=>⟨[(0,Cj n c),(5,Cj n c),(6,.int (n:Int)),(7,.int (i:Int))],[],0,33⟩) trivial (λi hin hFi J1 hJ1=>?_))
 refine Ab 6 (Mf 8 ((i:Int)<(n:Int)) (λhx1 hx1d=>?_) (λhx1 hx1d=>?_))
 ·
  exact Ab 7 (Ob i n (Ab 8 (Aw (Dj (c i) (hc _ ω)) (Ab 8 (Ig ((i:Int)+1) ((i+1:Nat):Int) (Ab 2 (Ys [0,5,6,7] [] 0 0 hA0 [] trivial (hJ1 ω trivial))))))))
 ·
  refine Ab 12 (Lj 18 (decide ((n:Int)<=25)) true (decide_eq_true ω) (Ab 4 (Mf 22 ((n:Int)=0) (λhx2 hx2d=>?_) (λhx2 hx2d=>?_))))
  ·
   exact Ab 14 (Cy)
  ·
   exact Ab 3 (Ig ((n:Int)-1) ((n-1:Nat):Int) (Ob (n-1) n (Ab 1 (Aw (Lo (c (n-1)) (hc _ ω)) (Ab 7 (Fu (.bool (!decide ((c (n-1)).sign=0))) (congrArg AV.bool (AfU hl ω))))))))
def Ch (c:Nat->Int):Nat->Int
 |0=>0
 |n+1=>max (Ch c n) (bitLen (c n).natAbs:Int)
theorem Te {c:Nat->Int} {k:Nat}:∀n,(∀i,i<n->bitLen (c i).natAbs<=k)->0<=Ch c n/\Ch c n<=(k:Int)
 |0,_=>⟨Int.le_refl _,by show (0:Int)<=_;omega⟩
 |n+1,h=>by
  have h1:=Te n λi hi=>h i ω
  have h2:=h n (Nat.lt_succ_self n)
  unfold Ch
  omega
theorem oL (n:Nat) (c:Nat->Int) (hn:n<=1000000) (hc:∀i,i<n->Cb (c i)):AF Tryz.prog 173 [Cj n c] (.int (Ch c n)):=by
 refine As func173 rfl λB D0 hA0=>?_
 refine Ab 19 (kK [3,6,7,8] n (λi=>True) (λi=>⟨[(3,.int (Ch c i)),(6,Cj n c),(7,.int (n:Int)),(8,.int (i:Int))],[],0,18⟩) trivial (λi hin hFi J1 hJ1=>?_))
 refine Ab 6 (Mf 9 ((i:Int)<(n:Int)) (λhx1 hx1d=>?_) (λhx1 hx1d=>?_))
 ·
  exact Ab 7 (Ob i n (Ab 8 (Aw (oN (c i) (hc _ ω)) (Bb (.int (max (Ch c i) (bitLen (c i).natAbs:Int))) .none (Ni (.tmp 12) (.tmp 14) #[3,3] κ (Ch c i) (bitLen (c i).natAbs:Int) κ κ) (Ab 5 (Ig ((i:Int)+1) ((i+1:Nat):Int) (Ab 2 (Ys [3,6,7,8] [] 0 0 hA0 [] trivial (hJ1 ω trivial)))))))))
 ·
  exact Ab 13 (Fu (.int (Ch c i)) (congrArg (λz=>AV.int (Ch c z)) (show _=n by omega)))
abbrev dC (l:List Int) (i:Nat):Int:=l.getD i 0
theorem rL (l:List Int) (hl:0<l.length) (hn:l.length<=25) (hc:∀i,Dd (l.getD i 0)):AF Tryz.prog 128 [Be l] (.tup [Cj (Gg (dC l) l.length) (dC l),.int 0]):=by
 have hle:=Ps (dC l) l.length
 refine As func128 rfl λB D0 hA0=>?_
 refine Ab 20 (vlp [4,7,8,9] (λm s=>∃i,i<=l.length/\m=l.length-i/\True/\((i=0/\s=⟨[(4,.lit (.slice none 0 0)),(7,Be l),(8,.int (l.length:Int)),(9,.int ((0:Nat):Int))],[],0,25⟩)\/(0<i/\s=⟨[(4,.osl 9 2 i),(7,Be l),(8,.int (l.length:Int)),(9,.int (i:Int))],[(9,.vec 174 2 i (λxi=>WA (dC l xi)))],10,25⟩))) l.length ⟨0,Nat.zero_le _,rfl,trivial,.inl ⟨rfl,κ⟩⟩ ?_)
 rintro _ _ ⟨i,hin,rfl,hFi,(⟨hi0,rfl⟩|⟨hi0,rfl⟩)⟩ J1 hJ1
 ·
  subst hi0
  refine Ab 6 (Mf 10 (((0:Nat):Int)<(l.length:Int)) (λhx1 hx1d=>?_) (λhx1 hx1d=>?_))
  ·
   exact Ab 7 (Ob 0 l.length (Ab 7 (Aw (Ga ((l).getD 0 0) (hc _).1 (hc _).2) (Bb (.osl 0 2 1) (.new 0 (.vec 174 2 1 (λ_=> .lit (Ak ((l).getD 0 0))))) (Al 211 1 #[(0,(.tmp 15))] κ underlying211 2 sizeOf174 _ zeroValue174 κ β β β 0 [.bool (decide ((l).getD 0 0<0)),.lit (.string (Df ((l).getD 0 0).natAbs))] κ (λ_=> .lit (Ak ((l).getD 0 0))) κ) (Bb (.osl 1 2 1) (.newr 0 1 (.vec 174 2 1 (λxi=>WA (dC l xi)))) (Fl (.tmp 13) (.tmp 16) 211 κ underlying211 2 24 (.agg #[.bool false,.string ⟨#[]⟩]) κ κ δ 1 ω (λ_=> .lit (Ak ((l).getD 0 0))) (λxi=>WA (dC l xi)) 1 (λi hi=>by(obtain rfl:i=0:=(ω));rfl) (λi hi j hj=>match j,hj with|0,_=>rfl|1,_=>rfl|_+2,h=>absurd h ω) (by unfold maxLen;omega) ω κ 0 174 κ κ) (Ab 5 (Ig (((0:Nat):Int)+1) ((0+1:Nat):Int) (Ab 2 (Ys [4,7,8,9] [(1,9)] 10 0 hA0 [(174,2,1,(λ_=> .lit (Ak ((l).getD 0 0)))),(174,2,1,(λxi=>WA (dC l xi)))] ⟨(Ro λ_ _=>rfl),(Ro λ_ _=>rfl),trivial⟩ (hJ1 _ _ (by omega:l.length-(0+1)<l.length-0) ⟨0+1,ω,rfl,trivial,.inr ⟨Nat.succ_pos _,rfl⟩⟩))))))))))
  ·
   refine Ab 6 ?_
   exfalso;omega
 ·
  refine Ab 6 (Mf 10 ((i:Int)<(l.length:Int)) (λhx2 hx2d=>?_) (λhx2 hx2d=>?_))
  ·
   exact Ab 7 (Ob i l.length (Ab 7 (Aw (Ga ((l).getD i 0) (hc _).1 (hc _).2) (Bb (.osl 10 2 1) (.new 10 (.vec 174 2 1 (λ_=> .lit (Ak ((l).getD i 0))))) (Al 211 1 #[(0,(.tmp 15))] κ underlying211 2 sizeOf174 _ zeroValue174 κ β β β 10 [.bool (decide ((l).getD i 0<0)),.lit (.string (Df ((l).getD i 0).natAbs))] κ (λ_=> .lit (Ak ((l).getD i 0))) κ) (Bb (.osl 11 2 (i+1)) (.grow2 9 10 11 (.vec 174 2 (i+1) (λxi=>WA (dC l xi)))) (Xr (.tmp 13) (.tmp 16) 211 κ underlying211 2 24 (.agg #[.bool false,.string ⟨#[]⟩]) κ κ δ i 1 ω (λxi=>WA (dC l xi)) (λ_=> .lit (Ak ((l).getD i 0))) (λxi=>WA (dC l xi)) 11 ω (by unfold maxLen;omega) (λi hi=>rfl) (λi hi=>by(obtain rfl:i=0:=(ω));rfl) (λi hi j hj=>match j,hj with|0,_=>rfl|1,_=>rfl|_+2,h=>absurd h ω) 9 κ κ 10 174 κ κ) (Ab 5 (Ig ((i:Int)+1) ((i+1:Nat):Int) (Ab 2 (Ys [4,7,8,9] [(11,9)] 10 0 hA0 [(174,2,1,(λ_=> .lit (Ak ((l).getD i 0)))),(174,2,i+1,(λxi=>WA (dC l xi)))] ⟨(Ro λ_ _=>rfl),(Ro λ_ _=>rfl),trivial⟩ (hJ1 _ _ (by omega:l.length-(i+1)<l.length-i) ⟨i+1,ω,rfl,trivial,.inr ⟨Nat.succ_pos _,rfl⟩⟩))))))))))
  ·
   refine Ab 6 ?_
   have hie:i=l.length:=by omega
   subst hie
   exact AdI 9 [4] 174 2 l.length (λxi=>WA (dC l xi)) (Ro λ_ _=>rfl) (Ab 3 (Aw (oM l.length (dC l) ω (λi _=>Hb (hc i))) (Ab 11 (Lj 23 (decide ((25:Int)<(Gg (dC l) l.length:Int))) false (decide_eq_false ω) (Ab 11 (Cy))))))
def Jw (a b:Int) (c:Nat->Int) (t k:Nat):Int:=if k<t then (if k=0 then 0 else c (k-1)*b)+c k*a else if k=t/\0<t then c (t-1)*b else 0
theorem Aar (a b:Int) (c:Nat->Int) (k:Nat):WA 0=WA (Jw a b c 0 k):=by
 unfold Jw
 rw[if_neg (Nat.not_lt_zero k),if_neg ω]
theorem Aaq (a b:Int) (c:Nat->Int) (t k:Nat):(if k=t+1 then WA (c t*b) else if k=t then WA (Jw a b c t t+c t*a) else WA (Jw a b c t k))=WA (Jw a b c (t+1) k):=by
 by_cases h1:k=t+1
 rw[if_pos h1]
 unfold Jw
 rw[if_neg ω,if_pos ω,Nat.add_sub_cancel]
 rw[if_neg h1]
 by_cases h2:k=t
 subst h2
 rw[if_pos rfl]
 unfold Jw
 rw[if_neg (Nat.lt_irrefl k),if_pos (Nat.lt_succ_self k)]
 by_cases h3:k=0
 subst h3;rw[if_neg ω,if_pos rfl]
 rw[if_pos ω,if_neg h3]
 rw[if_neg h2]
 by_cases h3:k<t
 rw[Jw,Jw,if_pos h3,if_pos (show k<t+1 by omega)]
 rw[Jw,Jw,if_neg h3,if_neg ω,if_neg ω,if_neg ω]
def Ji (d:Int):Nat->Int
 |0=>1
 |k+1=>Ji d k*d
theorem eI (d:Int):∀k,Ji d k=d^k
 |0=>by rw[Int.pow_zero];rfl
 |k+1=>by rw[Ji,eI d k,Int.pow_succ]
def cN (p:Nat->Int) (m:Nat) (a b d:Int):Nat->Nat->Int
 |0,_=>p (m-1)
 |j+1,k=>Jw a b (cN p m a b d j) (j+1) k+(if k=0 then p (m-2-j)*Ji d (j+1) else 0)
theorem Ach (p:Nat->Int) (m:Nat) (a b d:Int) (j k:Nat) {q:Nat} (hq:q=m-2-j):(if k=0 then WA (Jw a b (cN p m a b d j) (j+1) 0+p q*Ji d (j+1)) else WA (Jw a b (cN p m a b d j) (j+1) k))=WA (cN p m a b d (j+1) k):=by
 subst hq
 rw[cN]
 by_cases h:k=0
 subst h;rw[if_pos rfl,if_pos rfl]
 rw[if_neg h,if_neg h,Int.add_zero]
theorem Aap {a b:Int} {c:Nat->Int} {e:Nat} (ha:Dd a) (hb:Dd b) (hc:∀k,Bd e (c k)) (t k:Nat):Bd (e+64) (Jw a b c t k):=by
 have h1:∀k,Bd (e+63) (c k*a):=λk=>(hc k).mul (Bd.int ha.1 ha.2)
 have h2:∀k,Bd (e+63) (c k*b):=λk=>(hc k).mul (Bd.int hb.1 hb.2)
 unfold Jw
 split
 refine Bd.add (e:=e+63) ?_ (h1 k)
 split
 exact Bd.zero _
 exact h2 _
 split
 exact(h2 _).mono ω
 exact Bd.zero _
theorem gO {p:Nat->Int} {m:Nat} {a b d:Int} (hp:∀i,Dd (p i)) (ha:Dd a) (hb:Dd b) (hd:Dd d):∀j k,Bd (70*j+63) (cN p m a b d j k)
 |0,_=>Bd.int (hp _).1 (hp _).2
 |j+1,k=>by
  have h1:=Aap ha hb (gO (m:=m) hp ha hb hd j) (j+1) k
  rw[cN]
  refine(Bd.add (e:=70*j+63+64) (h1.mono (Nat.le_refl _)) ?_).mono ω
  split
  rw[eI];exact((Bd.int (hp _).1 (hp _).2).mul ((Bd.int hd.1 hd.2).pow (j+1))).mono ω
  exact Bd.zero _
def c3 (a b d:Int):Nat->Int
 |0=>a
 |1=>b
 |_=>d
theorem Ad8 {a b d:Int} (ha:Dd a) (hb:Dd b) (hd:Dd d):∀i,Dd (c3 a b d i)
 |0=>ha
 |1=>hb
 |_+2=>hd
theorem Abk {c:Nat->Int} {n:Nat} (h:∀i,Dd (c i)):0<=Ch c n/\Ch c n<=64:=Te (k:=64) n λi _=>by
 have:=(Bd.int (h i).1 (h i).2).le
 exact Ec.2 ω
theorem fH (k0:Nat) (p:Nat->Int) (a b d:Int) (hm:k0<=5) (hp:∀i,Dd (p i)) (hl:p k0≠0) (ha:Dd a) (hb:Dd b) (hd:Dd d) (hdp:0<d):AF Tryz.prog 129 [Cj (k0+1) p,WA a,WA b,WA d] (.tup [Cj (Gg (cN p (k0+1) a b d k0) (k0+1)) (cN p (k0+1) a b d k0),.int 0]):=by
 have hsp:=Abk (n:=k0+1) hp
 have hs3:=Abk (n:=3) (Ad8 ha hb hd)
 have hml:0<=((k0+1-1:Nat):Int)*(Ch (c3 a b d) 3+1)/\((k0+1-1:Nat):Int)*(Ch (c3 a b d) 3+1)<=325:=⟨Int.mul_nonneg ω ω,Int.le_trans (Int.mul_le_mul (show ((k0+1-1:Nat):Int)<=5 by omega) (show Ch (c3 a b d) 3+1<=65 by omega) ω ω) δ⟩
 have fc:∀j k,j<=6->Cb (cN p (k0+1) a b d j k):=λj k hj=>(gO hp ha hb hd j k).fit ω
 have fi:∀j t k,j<=6->Bd 600 (Jw a b (cN p (k0+1) a b d j) t k):=λj t k hj=>(Aap ha hb (gO hp ha hb hd j) t k).mono ω
 have fm:∀j k y,j<=6->Dd y->Bd 600 (cN p (k0+1) a b d j k*y):=λj k y hj hy=>((gO hp ha hb hd j k).mul (Bd.int hy.1 hy.2)).mono ω
 have fd:∀j,j<=6->Bd 500 (Ji d j):=λj hj=>by rw[eI];exact((Bd.int hd.1 hd.2).pow j).mono ω
 have fp:∀i j,j<=6->Bd 600 (p i*Ji d j):=λi j hj=>((Bd.int (hp i).1 (hp i).2).mul (fd j hj)).mono ω
 refine As func129 rfl λB D0 hA0=>?_
 refine Ab 13 (Aw (Mm (k0+1) p ω (λi _=>Hb (hp i)) (.inr hl)) (Ab 3 (Aw (Dj _ (Hb ha)) (Ab 4 (Aw (Dj _ (Hb hb)) (Ab 4 (Aw (Dj _ (Hb hd)) (Ab 11 (Aw (Lo d (Hb hd)) (Ab 3 (Lj 37 (decide (d.sign<=0)) false (decide_eq_false (by rw[Int.sign_eq_one_of_pos hdp];decide)) (Ab 11 (Lj 40 (decide (((k0+1:Nat):Int)=0)) false (decide_eq_false ω) (Ab 5 (Fa [(1,_,.none),(4,.int ((k0+1-1:Nat):Int),.none),(8,.osl 3 2 3,(.new 3 (.vec 174 2 3 (λxi=>WA (c3 a b d xi))))),(9,.int (Ch (c3 a b d) 3),(.read 3)),(10,.int (Ch (c3 a b d) 3+1),.none),(11,.int (((k0+1-1:Nat):Int)*(Ch (c3 a b d) 3+1)),.none),(12,.int (Ch p (k0+1)+((k0+1-1:Nat):Int)*(Ch (c3 a b d) 3+1)),.none),(13,.int (Ch p (k0+1)+((k0+1-1:Nat):Int)*(Ch (c3 a b d) 3+1)+8),.none),(14,.bool false,.none)] [0,5,6,7,55] ⟨Cx (oL (k0+1) p ω (λi _=>Hb (hp i))),Bc (Cg (v:= .int .i64 (IntKind.wrap .i64 (((k0+1:Nat):Int)-1))) (v':= .int .i64 ((k0+1-1:Nat):Int)) _ κ rfl κ (λw=>by kernel_rfl) (congrArg (Value.int .i64) ((IntWalk.i64_in _ ω).trans ω))),Bc (Al 210 3 #[(0,(.tmp 46)),(1,(.tmp 47)),(2,(.tmp 48))] κ underlying210 2 sizeOf174 _ zeroValue174 κ β β β 3 [.bool (decide (a<0)),.lit (.string (Df (a).natAbs)),.bool (decide (b<0)),.lit (.string (Df (b).natAbs)),.bool (decide (d<0)),.lit (.string (Df (d).natAbs))] κ (λxi=>WA (c3 a b d xi)) κ),Bc (Qd 173 #[.tmp 49] #[210] κ (λ_ _=>by kernel_rfl) 3 (.vec 174 2 3 (λxi=>WA (c3 a b d xi))) κ (λ_ _ _ _ h=>by cases h;exact(Ro λ_ _=>rfl)) [.osl 3 2 3] κ [.sl 2 3 (λxi=>WA (c3 a b d xi))] κ (.int .i64 (Ch (c3 a b d) 3)) (oL 3 (c3 a b d) ω (λi _=>Hb (Ad8 ha hb hd i)))),Bc (Cg (v:= .int .i64 (IntKind.wrap .i64 (Ch (c3 a b d) 3+1))) (v':= .int .i64 (Ch (c3 a b d) 3+1)) _ κ rfl κ (λw=>by kernel_rfl) (congrArg (Value.int .i64) ((IntWalk.i64_in _ ω).trans ω))),Bc (Cg (v:= .int .i64 (IntKind.wrap .i64 (((k0+1-1:Nat):Int)*(Ch (c3 a b d) 3+1)))) (v':= .int .i64 (((k0+1-1:Nat):Int)*(Ch (c3 a b d) 3+1))) _ κ rfl κ (λw=>by kernel_rfl) (congrArg (Value.int .i64) ((IntWalk.i64_in _ ω).trans ω))),Bc (Cg (v:= .int .i64 (IntKind.wrap .i64 (Ch p (k0+1)+((k0+1-1:Nat):Int)*(Ch (c3 a b d) 3+1)))) (v':= .int .i64 (Ch p (k0+1)+((k0+1-1:Nat):Int)*(Ch (c3 a b d) 3+1))) _ κ rfl κ (λw=>by kernel_rfl) (congrArg (Value.int .i64) ((IntWalk.i64_in _ ω).trans ω))),Bc (Cg (v:= .int .i64 (IntKind.wrap .i64 (Ch p (k0+1)+((k0+1-1:Nat):Int)*(Ch (c3 a b d) 3+1)+8))) (v':= .int .i64 (Ch p (k0+1)+((k0+1-1:Nat):Int)*(Ch (c3 a b d) 3+1)+8)) _ κ rfl κ (λw=>by kernel_rfl) (congrArg (Value.int .i64) ((IntWalk.i64_in _ ω).trans ω))),kbD (b:=decide ((65536:Int)<Ch p (k0+1)+((k0+1-1:Nat):Int)*(Ch (c3 a b d) 3+1)+8)) (decide_eq_false ω),trivial⟩ (Ab 10 (Fa [(3,.int ((k0+1-1:Nat):Int),.none),(4,Eb (Cj (k0+1) p) (k0+1-1),.none),(6,.osl 5 2 1,(.new 5 (.vec 174 2 1 (λ_=> .lit (Ak (p (k0+1-1))))))),(7,_,.none)] [0,5,6,7,10,11,12] ⟨Bc (Cg (v:= .int .i64 (IntKind.wrap .i64 (((k0+1:Nat):Int)-1))) (v':= .int .i64 ((k0+1-1:Nat):Int)) _ κ rfl κ (λw=>by kernel_rfl) (congrArg (Value.int .i64) ((IntWalk.i64_in _ ω).trans ω))),Nf (k0+1-1) (k0+1),Bc (Al 211 1 #[(0,(.tmp 61))] κ underlying211 2 sizeOf174 _ zeroValue174 κ β β β 5 [.bool (decide (p (k0+1-1)<0)),.lit (.string (Df (p (k0+1-1)).natAbs))] κ (λ_=> .lit (Ak (p (k0+1-1)))) κ),Cx (Ga 1 δ δ),trivial⟩ (Ab 6 (Ig (((k0+1:Nat):Int)-2) (((k0-0:Nat):Int)-1) (Ab 4 (kK [0,5,6,7,10,11,12,13] k0 (λj=>True) (λj=>⟨[(0,Cj (k0+1) p),(5,.ptr 0 0),(6,.ptr 1 0),(7,.ptr 2 0),(10,.ptr 4 0),(11,.osl 5 2 (j+1)),(12,.ptr 6 0),(13,.int (((k0-j:Nat):Int)-1))],[(0,.box 174 [.bool (decide (a<0)),.lit (.string (Df (a).natAbs))]),(1,.box 174 [.bool (decide (b<0)),.lit (.string (Df (b).natAbs))]),(2,.box 174 [.bool (decide (d<0)),.lit (.string (Df (d).natAbs))]),(3,.vec 174 2 3 (λxi=>WA (c3 a b d xi))),(4,.box 267 [.int 0]),(5,.vec 174 2 (j+1) (λxi=>WA (cN p (k0+1) a b d j xi))),(6,.box 174 [.bool (decide (Ji d j<0)),.lit (.string (Df (Ji d j).natAbs))])],7,121⟩) trivial (λj hjn hFj J1 hJ1=>?_))))))))))))))))))))))
 refine Ab 7 (Mf 68 ((0:Int)<=((k0-j:Nat):Int)-1) (λhx1 hx1d=>?_) (λhx1 hx1d=>?_))
 ·
  refine Ab 9 (Bb (.lit (Ak (Ji d (j+1)))) (.set 4 (.box 267 [.int 0])) (He 174 #[.tmp 10,.tmp 71,.tmp 72] #[267,174,174] κ (λ_ _=>by kernel_rfl) 4 267 [.int .i64 0] κ [.lit (Ak (Ji d j)),.lit (Ak d)] κ κ (Ak (Ji d (j+1))) (Vd (Ji d j) d ((fd j ω).fit ω) (Hb hd) ((fd (j+1) ω).fit ω))) (Ab 7 (Ig (((j+1:Nat):Int)+1) ((j+1+1:Nat):Int) (Bb (.osl 7 2 (j+1+1)) (.new 7 (.vec 174 2 (j+1+1) (λ_=> .lit (Ak 0)))) (Qp 211 (.tmp 76) (.tmp 76) κ underlying211 2 24 (.agg #[.bool false,.string ⟨#[]⟩]) κ κ δ ((j+1+1:Nat):Int) (j+1+1) ω κ κ ω ω ω 7 (.lit (Ak 0)) κ) (Ab 12 (vvx 7 174 2 (j+1+1) (λ_=> .lit (Ak 0)) (λxi=>WA (Jw a b (cN p (k0+1) a b d j) 0 xi)) (λx9 hx9=>Aar _ _ _ _) (kK [0,5,6,7,10,12,13,14,78,79,80] (j+1) (λt=>True) (λt=>⟨[(0,Cj (k0+1) p),(5,.ptr 0 0),(6,.ptr 1 0),(7,.ptr 2 0),(10,.ptr 4 0),(12,.ptr 6 0),(13,.int (((k0-j:Nat):Int)-1)),(14,.osl 7 2 (j+1+1)),(78,.osl 5 2 (j+1)),(79,.int ((j+1:Nat):Int)),(80,.int (t:Int))],[(0,.box 174 [.bool (decide (a<0)),.lit (.string (Df (a).natAbs))]),(1,.box 174 [.bool (decide (b<0)),.lit (.string (Df (b).natAbs))]),(2,.box 174 [.bool (decide (d<0)),.lit (.string (Df (d).natAbs))]),(3,.vec 174 2 3 (λxi=>WA (c3 a b d xi))),(4,.box 267 [.int 0]),(5,.vec 174 2 (j+1) (λxi=>WA (cN p (k0+1) a b d j xi))),(6,.box 174 [.bool (decide (Ji d (j+1)<0)),.lit (.string (Df (Ji d (j+1)).natAbs))]),(7,.vec 174 2 (j+1+1) (λxi=>WA (Jw a b (cN p (k0+1) a b d j) t xi)))],8,121⟩) trivial (λt htn hFt J2 hJ2=>?_))))))))
  refine Ab 6 (Mf 81 ((t:Int)<((j+1:Nat):Int)) (λhx2 hx2d=>?_) (λhx2 hx2d=>?_))
  ·
   exact Ab 8 (Ob t (j+1) (Bb (.lit (Ak (cN p (k0+1) a b d j t))) (.read 5) (Ho 174 (.tmp 83) κ isAgg174 2 sizeOf174 5 t κ 174 (j+1) (λxi=>WA (cN p (k0+1) a b d j xi)) κ ω) (Ab 6 (Fa [(4,Eb (.osl 7 2 (j+1+1)) t,.none),(5,.lit (Ak (Jw a b (cN p (k0+1) a b d j) t t)),(.read 7)),(8,.lit (Ak (cN p (k0+1) a b d j t*a)),(.set 4 (.box 267 [.int 0]))),(9,.lit (Ak (Jw a b (cN p (k0+1) a b d j) t t+cN p (k0+1) a b d j t*a)),(.set 4 (.box 267 [.int 0]))),(10,Eb (.osl 7 2 (j+1+1)) t,.none),(11,.lit Go.undef,(.set 7 (.vec 174 2 (j+1+1) (λxi=>if xi=t then .lit (Ak (Jw a b (cN p (k0+1) a b d j) t t+cN p (k0+1) a b d j t*a)) else (λxi=>WA (Jw a b (cN p (k0+1) a b d j) t xi)) xi))))] [0,5,6,7,10,12,13,14,15,16,78,79,80] ⟨Nf t (j+1+1),Bc (Ho 174 (.tmp 89) κ isAgg174 2 sizeOf174 7 t κ 174 (j+1+1) (λxi=>WA (Jw a b (cN p (k0+1) a b d j) t xi)) κ ω),Bc (He 174 #[.tmp 10,.tmp 91,.tmp 92] #[267,174,174] κ (λ_ _=>by kernel_rfl) 4 267 [.int .i64 0] κ [.lit (Ak (cN p (k0+1) a b d j t)),.lit (Ak a)] κ κ (Ak (cN p (k0+1) a b d j t*a)) (Vd _ _ (fc j _ ω) (Hb ha) ((fm j _ _ ω ha).fit ω))),Bc (He 175 #[.tmp 10,.tmp 90,.tmp 93] #[267,174,174] κ (λ_ _=>by kernel_rfl) 4 267 [.int .i64 0] κ [.lit (Ak (Jw a b (cN p (k0+1) a b d j) t t)),.lit (Ak (cN p (k0+1) a b d j t*a))] κ κ (Ak (Jw a b (cN p (k0+1) a b d j) t t+cN p (k0+1) a b d j t*a)) (oF _ _ ((fi j _ _ ω).fit ω) ((fm j _ _ ω ha).fit ω) (((fi j _ _ ω).add (fm j _ _ ω ha)).fit ω))),Nf t (j+1+1),Bc (Gr 174 (.tmp 95) (.tmp 94) κ 2 sizeOf174 7 t κ 174 (j+1+1) (λxi=>WA (Jw a b (cN p (k0+1) a b d j) t xi)) κ ω κ κ κ (.lit (Ak (Jw a b (cN p (k0+1) a b d j) t t+cN p (k0+1) a b d j t*a))) κ),trivial⟩ (Ab 4 (Ig ((t:Int)+1) ((t+1:Nat):Int) (Ab 2 (Bb (.lit (Ak (cN p (k0+1) a b d j t*b))) (.set 4 (.box 267 [.int 0])) (He 174 #[.tmp 10,.tmp 99,.tmp 100] #[267,174,174] κ (λ_ _=>by kernel_rfl) 4 267 [.int .i64 0] κ [.lit (Ak (cN p (k0+1) a b d j t)),.lit (Ak b)] κ κ (Ak (cN p (k0+1) a b d j t*b)) (Vd _ _ (fc j _ ω) (Hb hb) ((fm j _ _ ω hb).fit ω))) (Ob (t+1) (j+1+1) (Bb (.lit Go.undef) (.set 7 (.vec 174 2 (j+1+1) (λxi=>if xi=t+1 then .lit (Ak (cN p (k0+1) a b d j t*b)) else (λxi=>if xi=t then .lit (Ak (Jw a b (cN p (k0+1) a b d j) t t+cN p (k0+1) a b d j t*a)) else (λxi=>WA (Jw a b (cN p (k0+1) a b d j) t xi)) xi) xi))) (Gr 174 (.tmp 102) (.tmp 101) κ 2 sizeOf174 7 (t+1) κ 174 (j+1+1) (λxi=>if xi=t then .lit (Ak (Jw a b (cN p (k0+1) a b d j) t t+cN p (k0+1) a b d j t*a)) else (λxi=>WA (Jw a b (cN p (k0+1) a b d j) t xi)) xi) κ ω κ κ κ (.lit (Ak (cN p (k0+1) a b d j t*b))) κ) (Ab 4 (Ig ((t:Int)+1) ((t+1:Nat):Int) (Ab 2 (vvx 7 174 2 (j+1+1) (λxi=>if xi=t+1 then .lit (Ak (cN p (k0+1) a b d j t*b)) else (λxi=>if xi=t then .lit (Ak (Jw a b (cN p (k0+1) a b d j) t t+cN p (k0+1) a b d j t*a)) else (λxi=>WA (Jw a b (cN p (k0+1) a b d j) t xi)) xi) xi) (λxi=>WA (Jw a b (cN p (k0+1) a b d j) (t+1) xi)) (λx9 hx9=>Aaq _ _ _ _ _) (Ys [0,5,6,7,10,12,13,14,78,79,80] [(0,0),(1,1),(2,2),(3,3),(4,4),(5,5),(6,6),(7,7)] 8 0 hA0 [(174,2,3,(λxi=>WA (c3 a b d xi))),(174,2,j+1,(λxi=>WA (cN p (k0+1) a b d j xi))),(174,2,j+1+1,(λxi=>WA (Jw a b (cN p (k0+1) a b d j) (t+1) xi)))] ⟨(Ro λ_ _=>rfl),(Ro λ_ _=>rfl),(Ro λ_ _=>rfl),trivial⟩ (hJ2 ω trivial))))))))))))))))
  ·
   refine Ab 6 ?_
   have hte:t=j+1:=by omega
   subst hte
   exact Ab 1 (Fa [(2,Eb (.osl 7 2 (j+1+1)) 0,.none),(3,.lit (Ak (Jw a b (cN p (k0+1) a b d j) (j+1) 0)),(.read 7)),(6,Eb (Cj (k0+1) p) (((k0-j:Nat):Int)-1).toNat,.none),(9,.lit (Ak (p ((((k0-j:Nat):Int)-1).toNat)*(Ji d (j+1)))),(.set 4 (.box 267 [.int 0]))),(10,.lit (Ak (Jw a b (cN p (k0+1) a b d j) (j+1) 0+p ((((k0-j:Nat):Int)-1).toNat)*(Ji d (j+1)))),(.set 4 (.box 267 [.int 0]))),(11,Eb (.osl 7 2 (j+1+1)) 0,.none),(12,.lit Go.undef,(.set 7 (.vec 174 2 (j+1+1) (λxi=>if xi=0 then .lit (Ak (Jw a b (cN p (k0+1) a b d j) (j+1) 0+p ((((k0-j:Nat):Int)-1).toNat)*(Ji d (j+1)))) else (λxi=>WA (Jw a b (cN p (k0+1) a b d j) (j+1) xi)) xi))))] [0,5,6,7,10,12,13,14] ⟨Nf 0 (j+1+1),Bc (Ho 174 (.tmp 106) κ isAgg174 2 sizeOf174 7 0 κ 174 (j+1+1) (λxi=>WA (Jw a b (cN p (k0+1) a b d j) (j+1) xi)) κ ω),Aat (((k0-j:Nat):Int)-1) (((k0-j:Nat):Int)-1).toNat (k0+1),Bc (He 174 #[.tmp 10,.tmp 111,.tmp 112] #[267,174,174] κ (λ_ _=>by kernel_rfl) 4 267 [.int .i64 0] κ [.lit (Ak (p ((((k0-j:Nat):Int)-1).toNat))),.lit (Ak (Ji d (j+1)))] κ κ (Ak (p ((((k0-j:Nat):Int)-1).toNat)*(Ji d (j+1)))) (Vd _ _ (Hb (hp _)) ((fd _ ω).fit ω) ((fp _ _ ω).fit ω))),Bc (He 175 #[.tmp 10,.tmp 107,.tmp 113] #[267,174,174] κ (λ_ _=>by kernel_rfl) 4 267 [.int .i64 0] κ [.lit (Ak (Jw a b (cN p (k0+1) a b d j) (j+1) 0)),.lit (Ak (p ((((k0-j:Nat):Int)-1).toNat)*(Ji d (j+1))))] κ κ (Ak (Jw a b (cN p (k0+1) a b d j) (j+1) 0+p ((((k0-j:Nat):Int)-1).toNat)*(Ji d (j+1)))) (oF _ _ ((fi j _ _ ω).fit ω) ((fp _ _ ω).fit ω) (((fi j _ _ ω).add (fp _ _ ω)).fit ω))),Nf 0 (j+1+1),Bc (Gr 174 (.tmp 115) (.tmp 114) κ 2 sizeOf174 7 0 κ 174 (j+1+1) (λxi=>WA (Jw a b (cN p (k0+1) a b d j) (j+1) xi)) κ ω κ κ κ (.lit (Ak (Jw a b (cN p (k0+1) a b d j) (j+1) 0+p ((((k0-j:Nat):Int)-1).toNat)*(Ji d (j+1))))) κ),trivial⟩ (Ab 9 (Ig (((k0-j:Nat):Int)-1-1) (((k0-(j+1):Nat):Int)-1) (Ab 2 (vvx 7 174 2 (j+1+1) (λxi=>if xi=0 then .lit (Ak (Jw a b (cN p (k0+1) a b d j) (j+1) 0+p ((((k0-j:Nat):Int)-1).toNat)*(Ji d (j+1)))) else (λxi=>WA (Jw a b (cN p (k0+1) a b d j) (j+1) xi)) xi) (λxi=>WA (cN p (k0+1) a b d (j+1) xi)) (λx9 hx9=>Ach _ _ _ _ _ _ _ ω) (Ys [0,5,6,7,10,11,12,13] [(0,0),(1,1),(2,2),(3,3),(4,4),(7,5),(6,6)] 7 0 hA0 [(174,2,3,(λxi=>WA (c3 a b d xi))),(174,2,j+1,(λxi=>WA (cN p (k0+1) a b d j xi))),(174,2,j+1+1,(λxi=>WA (cN p (k0+1) a b d (j+1) xi)))] ⟨(Ro λ_ _=>rfl),(Ro λ_ _=>rfl),(Ro λ_ _=>rfl),trivial⟩ (hJ1 ω trivial)))))))
 ·
  refine Ab 6 ?_
  have hje:j=k0:=by omega
  subst hje
  refine AdI 5 [11] 174 2 (j+1) (λxi=>WA (cN p (j+1) a b d j xi)) (Ro λ_ _=>rfl) (Ab 3 (Ad0 7 func176 (λ_ hD3=>?_)))
  exact Ab 23 (Aw (oM (j+1) (cN p (j+1) a b d j) ω (λi _=>fc _ i ω)) (Ab 5 (vrI (Ab 7 (Cy)))))
structure Vs where
 n:Nat
 f:Nat->V3
abbrev Ny (l:Vs):AV:= .sl 3 l.n λi=>Fm (l.f i)
end Go.Proofs.YthhkfanbmpcmbaaGreatDoor
namespace Go.Proofs.YthhkfanbmpcmbaaGreatDoor
open Go.RowKit
structure Fnc where
 o:Vs
 hn:Nat
 h:Nat->Vs
 low:Int
 high:Int
abbrev hsA (f:Fnc):AV:= .sl 1 f.hn λi=>Ny (f.h i)
abbrev Sk (f:Fnc):AV:= .agg [Ny f.o,hsA f,.int f.low,.int f.high]
end Go.Proofs.YthhkfanbmpcmbaaGreatDoor