/- Part 20 of the proof of EX.row_holds, joined by program: no condition beyond the row's own. -/
import Derived.Test.YtkcnbaeoahoglaaGreatX19
set_option maxRecDepth 100000
set_option maxHeartbeats 40000000
namespace Go.Proofs.YtkcnbaeoahoglaaGreat
open Tryz
open Go.RowKit
theorem Zd {E:Dd} {e n:Nat} {f:Nat->AV} {v:Value} (h:VR E (.sl e n f) v) (cs:List Value) (hl:cs.length=n*e) (hc:∀i j,i<n->j<e->(f i).cell j= .lit (cs.getD (i*e+j) undef)):Dy E.w E.D e v n cs:=by
 cases h with
 |sl0=>exact⟨hl,.inl ⟨_,_,rfl,rfl⟩⟩
 |sl _ _ _ _ b q c us hn hD hcell hr=>
  refine⟨hl,.inr ⟨b,q,c,rfl,hD,λk u hu=>?_⟩⟩
  obtain⟨hk,he⟩:=List.getElem?_eq_some_iff.1 hu
  rw[hl] at hk
  have he0:0<e:=by
   rcases Nat.eq_zero_or_pos e with h|h
   subst h;omega
   exact h
  obtain⟨d1,d2,d3⟩:=gE hk he0
  have h1:=hcell _ _ d1 d2
  have h2:=hr _ _ d1 d2
  rw[hc _ _ d1 d2,d3] at h2
  have h3:=h2.lit_inv
  rw[Nat.add_assoc,d3,h3] at h1
  rw[h1,List.getD_eq_getElem?_getD,hu];rfl
theorem Pw {w:World} {D:Nat->Prop} {e n:Nat} {v:Value} {cs:List Value} (h:Dy w D e v n cs) {E:Dd} (hw:E.w=w) (hD:∀b,D b->E.D b) {f:Nat->AV} (hc:∀i j,i<n->j<e->VR E.fz ((f i).cell j) (cs.getD (i*e+j) undef)):VR E (.sl e n f) v:=by
 subst hw
 by_cases hn:n=0
 obtain⟨A,c,rfl⟩:=h.slice
 subst hn
 exact .sl0 _ _ _ _ _
 rcases h.2 with⟨A,c,rfl,h0⟩|⟨b,o,c,rfl,hd,hcell⟩
 exact absurd h0 hn
 refine .sl _ _ _ _ _ _ _ (λi j=>cs.getD (i*e+j) undef) (by omega) (hD b hd) (λi j hi hj=>?_) hc
 have hlt:i*e+j<n*e:=by
  have:=Nat.mul_le_mul_right e (show i+1<=n from hi)
  rw[Nat.succ_mul] at this;omega
 rw[Nat.add_assoc]
 exact hcell _ _ (by rw[List.getD_eq_getElem?_getD,List.getElem?_eq_getElem (by rw[h.1];exact hlt)];rfl)
theorem eJ (l:List Int) {i:Nat} (h:i<l.length):(El l).getD i undef= .int .i64 (l.getD i 0):=by
 rw[List.getD_eq_getElem?_getD,Vg l i h,List.getD_eq_getElem?_getD,List.getElem?_eq_getElem h];rfl
theorem Yq {w:World} {D:Nat->Prop} {l:List Int} {v:Value} (h:Dy w D 1 v l.length (El l)) {E:Dd} (hw:E.w=w) (hD:∀b,D b->E.D b):VR E (Bc l) v:=
 Pw h hw hD λi j hi hj=>by
  obtain rfl:j=0:=by omega
  rw[Nat.mul_one,Nat.add_zero,eJ l hi]
  exact .lit _ _
theorem AbD {E:Dd} {l:List Int} {v:Value} (h:VR E (Bc l) v):Dy E.w E.D 1 v l.length (El l):=
 Zd h (El l) (by rw[lB,Nat.mul_one]) λi j hi hj=>by
  obtain rfl:j=0:=by omega
  rw[Nat.mul_one,Nat.add_zero,eJ l hi]
  rfl
def Sg.none:Sg:=⟨0,0,0,[],[],[]⟩
abbrev Bj (l:List Sg):AV:= .sl 6 l.length λi=>Bs (l.getD i Sg.none)
theorem rT {w:World} {D:Nat->Prop} {l:List Sg} {v:Value} (h:xE w D v l) {E:Dd} (hw:E.w=w) (hD:∀b,D b->E.D b):VR E (Bj l) v:=by
 obtain⟨cs,h1,h2⟩:=h
 refine Pw h1 hw hD λi j hi hj=>?_
 obtain⟨a,⟨vx,vy,vz,rfl,hx,hy,hz⟩,ha⟩:=h2.at_ hi
 have e:l.getD i Sg.none=l[i]:=by rw[List.getD_eq_getElem?_getD,List.getElem?_eq_getElem hi];rfl
 have g:∀u,[Value.int .i64 l[i].f,.int .i64 l[i].t,.int .i64 l[i].o,vx,vy,vz][j]?=some u->cs.getD (i*6+j) undef=u:=λu hu=>by
  rw[List.getD_eq_getElem?_getD,ha j u hu];rfl
 rw[e]
 match j,hj with
 |0,_=>rw[g _ rfl];exact .lit _ _
 |1,_=>rw[g _ rfl];exact .lit _ _
 |2,_=>rw[g _ rfl];exact .lit _ _
 |3,_=>rw[g _ rfl];exact Yq (E:=E.fz) hx hw hD
 |4,_=>rw[g _ rfl];exact Yq (E:=E.fz) hy hw hD
 |5,_=>rw[g _ rfl];exact Yq (E:=E.fz) hz hw hD
theorem pV {P:Program} {f:FuncId} {args:List AV} {r:AV} (h:∀(E:Dd) (vs:Array Value),(∀b,E.D b->b<E.w.heap.size)->vs.size=args.length->(∀i,i<args.length->VR E.fz (args.getD i .top) (vs.getD i undef))->
  Calls P f vs E.w λe w'=>∃v,e= .returned v/\Below E.w.heap.size E.w w'/\∀E':Dd,E'.w=w'->(∀b,E.D b->E'.D b)->(∀b,E.w.heap.size<=b->b<w'.heap.size->E'.D b)->VR E' r v):AF P f args r:=by
 intro E vs hD hn hv
 refine(h E vs hD hn hv).mono ?_
 rintro e w' ⟨v,rfl,hb,hr⟩
 refine⟨v,λb=>E.D b\/(E.w.heap.size<=b/\b<w'.heap.size),rfl,hr _ rfl (λb hb=> .inl hb) (λb h1 h2=> .inr ⟨h1,h2⟩),hb,λb hb=> .inl hb,λb hb=>?_,λb hb'=>?_⟩
 rcases hb with hb|hb
 exact .inl hb
 exact .inr hb.1
 rcases hb' with hb'|hb'
 exact Nat.lt_of_lt_of_le (hD b hb') hb.size
 exact hb'.2
theorem pU {P:Program} {f:FuncId} {vs:List Value} {r:AV} (h:∀w,Calls P f vs.toArray w λe w'=>∃v,e= .returned v/\Below w.heap.size w w'/\∀E':Dd,E'.w=w'->(∀b,w.heap.size<=b->b<w'.heap.size->E'.D b)->VR E' r v):AF P f (vs.map .lit) r:=by
 refine pV λE us hD hn hv=>?_
 have:us=vs.toArray:=VR.lits (E:=E.fz) (by simpa using hn) (VR.tops hv)
 subst this
 refine(h E.w).mono ?_
 rintro e w' ⟨v,rfl,hb,hr⟩
 exact⟨v,rfl,hb,λE' h1 _ h3=>hr E' h1 h3⟩
abbrev Ew (v:V3):AV:= .lit (.agg #[.int .i64 v.x,.int .i64 v.y,.int .i64 v.z])
theorem Uq (v:V3):AF Tryz.prog 35 [Ew v] (.bool (Ft 1048576 [v.x,v.y,v.z])):=Jh (vs:=[_]) λw=>eV v.x v.y v.z w
theorem pL (x y z:Int) (w:World):
  Calls Tryz.prog 27 #[.agg #[.int .i64 x,.int .i64 y,.int .i64 z]] w λe w'=>e= .returned (.bool (Ft 16777216 [x,y,z]))/\Below w.heap.size w w':=by
 go_enter func27,ntmps27
 go_wp2_with fail
 refine(aN _ ?_ ?_ [x,y,z] _ _ ?_ ?_).mono ?_
 · omega
 · omega
 · simp
 · exact Cz.new1 _ [.int .i64 x,.int .i64 y,.int .i64 z] 3 _ 0 _ 1 3 rfl (by simp) (Nat.zero_le _) (by simp)
 ·
  rintro e w1 ⟨rfl,rfl⟩
  go_wp2_with fail
  go_ret
  exact⟨rfl,((Below.refl _ _).alloc (Nat.le_refl _) _).alloc (by simp) _⟩
theorem Sk (v:V3):AF Tryz.prog 27 [Ew v] (.bool (Ft 16777216 [v.x,v.y,v.z])):=Jh (vs:=[_]) λw=>pL v.x v.y v.z w
theorem Ada {E:Dd} {x y:AV} {a b:Value} (h1:VR E x a) (h2:VR E y b):VR E (.tup [x,y]) (.tuple #[a,b]):= .tup _ _ _ rfl λi hi=>by
 match i,hi with
 |0,_=>exact h1
 |1,_=>exact h2
abbrev tN (a b:V3) (f t k:Int):AV:= .tup [Bj (if Na a b f t=true then [Lj a b f t k] else []),.int (if Na a b f t=true then 0 else 2)]
theorem qW {w w':World} {a b:V3} {f t k:Int} {e:Ending} (h:Hd w a b f t k e w'):∃v,e= .returned v/\Below w.heap.size w w'/\∀E':Dd,E'.w=w'->(∀b,w.heap.size<=b->b<w'.heap.size->E'.D b)->VR E' (tN a b f t k) v:=by
 unfold Hd at h
 unfold tN
 split at h
 rename_i hf
 obtain⟨v,rfl,hp,hb⟩:=h
 simp only[hf,if_true]
 exact⟨_,rfl,hb,λE' h1 h2=>Ada (rT hp h1 λb hb=>h2 b hb.1 hb.2) (.lit _ _)⟩
 rename_i hf
 simp only[hf,if_false]
 obtain⟨rfl,hb⟩:=h
 exact⟨_,rfl,hb,λE' h1 h2=>Ada (.sl0 _ _ _ _ _) (.lit _ _)⟩
theorem wQ (a b:V3) (f t:Int):AF Tryz.prog 37 [Ew a,Ew b,.int f,.int t] (tN a b f t 2):=pU (vs:=[_,_,_,_]) λw=>(Xa a.x a.y a.z b.x b.y b.z f t w).mono λe w' h=>qW h
theorem wR (a:V3) (f t:Int):AF Tryz.prog 22 [Ew a,.int f,.int t] (tN a a f t 0):=pU (vs:=[_,_,_]) λw=>(eI a.x a.y a.z f t w).mono λe w' h=>qW h
abbrev Wg (l:List V3):AV:= .sl 3 l.length λi=>Ew (l.getD i V3.zero)
abbrev Po (l:List ByteArray):AV:= .sl 1 l.length λi=> .lit (.string (l.getD i ByteArray.empty))
abbrev Wj (m:Mv):AV:= .lit (.agg #[.int .i64 m.to.x,.int .i64 m.to.y,.int .i64 m.to.z,.int .i64 m.wait,.int .i64 m.flight,.int .i64 m.rise])
abbrev Abp (l:List Mv):AV:= .sl 6 l.length λi=>Wj (l.getD i Mv.none)
abbrev Fq (a:Ac):AV:= .agg [.lit (.string a.name),.int a.len,Abp a.moves]
abbrev Qi (l:List Ac):AV:= .sl 3 l.length λi=>Fq (l.getD i Ac.none)
abbrev Em (p:Pr):AV:= .agg [Po p.names,Wg p.homes,Qi p.acts]
theorem Oe {α:Type} (f:α->List Value) (k:Nat) (hf:∀a,(f a).length=k):∀(l:List α) (i j:Nat) (d:α),i<l.length->j<k->(l.flatMap f).getD (i*k+j) undef=(f (l.getD i d)).getD j undef
 |[],i,j,d,hi,_=>by simp at hi
 |a::l,0,j,d,_,hj=>by
  rw[List.flatMap_cons,List.getD_eq_getElem?_getD,List.getElem?_append_left (by rw[hf];omega)]
  simp[List.getD_eq_getElem?_getD]
 |a::l,i+1,j,d,hi,hj=>by
  rw[List.flatMap_cons,List.getD_eq_getElem?_getD,List.getElem?_append_right (by rw[hf,Nat.succ_mul];omega),hf]
  have:=Oe f k hf l i j d (by simpa using hi) hj
  rw[List.getD_eq_getElem?_getD] at this
  rw[show (i+1)*k+j-k=i*k+j by rw[Nat.succ_mul];omega,this]
  simp[List.getD_eq_getElem?_getD]
theorem Xy {α:Type} (f:α->List Value) (k:Nat) (hf:∀a,(f a).length=k):∀l:List α,(l.flatMap f).length=l.length*k
 |[]=>by simp
 |a::l=>by rw[List.flatMap_cons,List.length_append,hf,Xy f k hf l,List.length_cons,Nat.succ_mul];omega
theorem vW {E:Dd} {l:List V3} {v:Value} (h:VR E (Wg l) v):Dy E.w E.D 3 v l.length (Iz l):=
 Zd h (Iz l) (Yf l) λi j hi hj=>by
  have:=Oe (λv:V3=>[Value.int .i64 v.x,.int .i64 v.y,.int .i64 v.z]) 3 (λ_=>rfl) l i j V3.zero hi hj
  show _=AV.lit ((Iz l).getD (i*3+j) undef)
  unfold Iz
  rw[this]
  match j,hj with
  |0,_=>rfl
  |1,_=>rfl
  |2,_=>rfl
theorem zM {E:Dd} {l:List Mv} {v:Value} (h:VR E (Abp l) v):Dy E.w E.D 6 v l.length (uF l):=
 Zd h (uF l) (Xy Mv.cells 6 (λ_=>rfl) l) λi j hi hj=>by
  have:=Oe Mv.cells 6 (λ_=>rfl) l i j Mv.none hi hj
  unfold uF
  rw[this]
  match j,hj with
  |0,_=>rfl
  |1,_=>rfl
  |2,_=>rfl
  |3,_=>rfl
  |4,_=>rfl
  |5,_=>rfl
theorem oJ {E:Dd} {l:List ByteArray} {v:Value} (h:VR E (Po l) v):Dy E.w E.D 1 v l.length (strs l):=
 Zd h (strs l) (by simp[strs]) λi j hi hj=>by
  obtain rfl:j=0:=by omega
  rw[Nat.mul_one,Nat.add_zero]
  show AV.lit (.string (l.getD i ByteArray.empty))=AV.lit ((strs l).getD i undef)
  simp[strs,List.getD_eq_getElem?_getD,hi]
def Xp:List Ac->(Nat->Value)->List Value
 |[],_=>[]
 |a::l,g=>[.string a.name,.int .i64 a.len,g 0]++Xp l λi=>g (i+1)
theorem Wr:∀(l:List Ac) (g:Nat->Value),(Xp l g).length=l.length*3
 |[],_=>rfl
 |a::l,g=>by rw[Xp,List.length_append,Wr l];simp;omega
theorem jU:∀(l:List Ac) (g:Nat->Value) (i j:Nat),i<l.length->j<3->(Xp l g).getD (i*3+j) undef=[Value.string (l.getD i Ac.none).name,.int .i64 (l.getD i Ac.none).len,g i].getD j undef
 |[],g,i,j,hi,_=>by simp at hi
 |a::l,g,0,j,_,hj=>by
  rw[Xp,List.getD_eq_getElem?_getD,List.getElem?_append_left (by simp;omega)]
  simp[List.getD_eq_getElem?_getD]
 |a::l,g,i+1,j,hi,hj=>by
  rw[Xp,List.getD_eq_getElem?_getD,List.getElem?_append_right (by simp;omega)]
  have:=jU l (λi=>g (i+1)) i j (by simpa using hi) hj
  rw[List.getD_eq_getElem?_getD] at this
  rw[show (i+1)*3+j-[Value.string a.name,.int .i64 a.len,g 0].length=i*3+j by simp;omega,this]
  simp[List.getD_eq_getElem?_getD]
theorem Zv {w:World} {D:Nat->Prop}:∀(l:List Ac) (g:Nat->Value),(∀i,i<l.length->Dy w D 6 (g i) (l.getD i Ac.none).moves.length (uF (l.getD i Ac.none).moves))->Qt w D l (Xp l g)
 |[],_,_=>rfl
 |a::l,g,h=>⟨_,_,rfl,⟨g 0,rfl,by simpa using h 0 (by simp)⟩,Zv l (λi=>g (i+1)) λi hi=>by simpa using h (i+1) (by simpa using hi)⟩
theorem tB {E:Dd} {l:List Ac} {v:Value} (h:VR E (Qi l) v):∃cs,Dy E.w E.D 3 v l.length cs/\Qt E.w E.D l cs:=by
 unfold Qi at h
 generalize hn:l.length=n at h ⊢
 cases h with
 |sl0=>
  have:l=[]:=List.eq_nil_of_length_eq_zero hn
  subst this
  exact⟨[],⟨rfl,.inl ⟨_,_,rfl,rfl⟩⟩,rfl⟩
 |sl _ _ _ _ b q c us hn0 hD hcell hr=>
  refine⟨Xp l λi=>us i 2,⟨by rw[Wr,hn],.inr ⟨b,q,c,rfl,hD,λk u hu=>?_⟩⟩,Zv l _ λi hi=>?_⟩
  obtain⟨hk,he⟩:=List.getElem?_eq_some_iff.1 hu
  rw[Wr,hn] at hk
  obtain⟨d1,d2,d3⟩:=gE hk (by decide)
  have h1:=hcell _ _ d1 d2
  have h2:=hr _ _ d1 d2
  have h3:=jU l (λi=>us i 2) (k/3) (k%3) (by rw[hn];exact d1) d2
  rw[d3,List.getD_eq_getElem?_getD,hu] at h3
  rw[Nat.add_assoc,d3] at h1
  rw[h1]
  congr 1
  have h4:u=[Value.string (l.getD (k/3) Ac.none).name,.int .i64 (l.getD (k/3) Ac.none).len,us (k/3) 2].getD (k%3) undef:=h3
  rw[h4]
  generalize hj:k%3=j at h2 d2
  match j,d2 with
  |0,_=>exact h2.lit_inv
  |1,_=>exact h2.lit_inv
  |2,_=>rfl
  have h2:=hr i 2 (by omega) (by decide)
  exact zM (E:=E.fz) h2
theorem rV {E:Dd} {p:Pr} {v:Value} (h:VR E (Em p) v) (hD:∀b,E.D b->b<E.w.heap.size):∃vn vh va,v= .agg #[vn,vh,va]/\Iw E.w E.w.heap.size vn vh va p:=by
 have hrg:∀b,E.D b->rg 0 E.w.heap.size b:=λb hb=>⟨Nat.zero_le _,hD b hb⟩
 cases h with
 |agg _ _ vs hn hr=>
  have g:=VR.tops hr
  have hvs:vs=#[vs.getD 0 undef,vs.getD 1 undef,vs.getD 2 undef]:=by
   apply Array.ext
   simpa using hn
   intro i h1 h2
   have h3:i<3:=by simpa using h2
   match i,h3 with
   |0,_=>simp[Array.getD,h1]
   |1,_=>simp[Array.getD,h1]
   |2,_=>simp[Array.getD,h1]
  obtain⟨cs,k1,k2⟩:=tB (g 2)
  exact⟨_,_,_,congrArg _ hvs,⟨(oJ (g 0)).more hrg,(vW (g 1)).more hrg,cs,k1.more hrg,k2.more hrg⟩⟩
structure Mx (p:Pr):Prop where
 names:∀s∈p.names,s.size<=maxLen
 anames:∀a∈p.acts,a.name.size<=maxLen
 acts:p.acts.length<=1000000
 moves:∀a∈p.acts,a.moves.length<=1000000
 lens:∀a∈p.acts,Cj a.len
theorem iB {vs:Array Value} (h:vs.size=1):vs=#[vs.getD 0 undef]:=by
 apply Array.ext
 simpa using h
 intro i h1 h2
 have:i=0:=by simp at h2;exact h2
 subst this
 simp[h1]
theorem Dp (p:Pr) (hp:Mx p):AF Tryz.prog 12 [Em p] (.bool (Da p)):=pV λE us hD hn hv=>by
 rw[iB hn]
 have h0:=hv 0 (by simp)
 obtain⟨vn,vh,va,e,h1⟩:=rV (E:=E.fz) (p:=p) h0 hD
 rw[e]
 refine(vT p vn vh va E.w h1 hp.names hp.anames hp.acts hp.moves).mono ?_
 rintro e w' ⟨rfl,hb⟩
 exact⟨_,rfl,hb,λ_ _ _ _=> .lit _ _⟩
structure De where
 sides:List V3
 across:Int
 down:Int
 ground:Int
abbrev cE (l:List V3):AV:= .slc 3 l.length λi=>Ew (l.getD i V3.zero)
abbrev Fy (d:De):AV:= .agg [cE d.sides,.int d.across,.int d.down,.int d.ground]
structure Cs where
 craft:Int
 act:Int
abbrev dN (c:Cs):AV:= .lit (.agg #[.int .i64 c.craft,.int .i64 c.act])
def AaI (p:Pr) (a k:Int):Prop:=(p.names.length:Int)<=a/\(p.homes.length:Int)<=a/\(p.acts.length:Int)<=k/\(∀i,i<p.names.length->(p.names.getD i ByteArray.empty).size<=60)/\∀i,i<p.acts.length->(p.acts.getD i Ac.none).name.size<=60/\((p.acts.getD i Ac.none).moves.length:Int)<=a
theorem wN (p:Pr) (a k:Int) (ha:Cj a) (hk:Cj k):AF Tryz.prog 6 [Em p,.int a,.int k] (.bool (bP (AaI p a k))):=by
 refine Dl ⟨[(0,Em p),(1,.int a),(2,.int k)],[],0,68⟩ func6 rfl 68 ntmps6 (by kernel_rfl) (by kernel_rfl) λB D0 hA0=>?_
 refine Bu 2 [1,2,3] ?_
 refine Al (Ab ?_)
 refine Ae 2 ?_
 refine Bl (.int (p.names.length:Int)) (Dg (.tmp 10) 22 #[22] underlying22 p.names.length (.inl ⟨1,(λi0=> .lit (.string (p.names.getD i0 ByteArray.empty))),by kernel_rfl⟩)) ?_
 refine Ae 1 ?_
 refine qb (decide (a<(p.names.length:Int))) ?_
 refine Ae 1 ?_
 refine Ao (decide (a<(p.names.length:Int))) (λhx1=>?_) (λhx1=>?_)
 have hx1d:=of_decide_eq_true hx1
 refine Bg 14 _ true hx1 ?_
 refine Ae 13 ?_
 refine As [1,3,27] ?_
 refine Ca (Bu 1 [6] ?_)
 refine Be ?_
 exact⟨.inl rfl,(Bv results6 (Ak (x:= .bool false) (by kernel_rfl) (by kernel_rfl))).cast (congrArg AV.bool (Ce (by rintro⟨g1,g2,g3,g4,g5⟩;first|omega|(have:=g4 i (by omega);omega)|(have:=g5 j (by omega);omega))).symm)⟩
 have hx1d:=of_decide_eq_false hx1
 refine Bg 14 _ false hx1 ?_
 refine Ae 2 ?_
 refine Ei (.int (p.homes.length:Int)) .none (Dg (.tmp 16) 23 #[23] underlying23 p.homes.length (.inl ⟨3,(λi0=>Ew (p.homes.getD i0 V3.zero)),by kernel_rfl⟩)) ?_
 refine Ae 1 ?_
 refine Ga (decide (a<(p.homes.length:Int))) ?_
 refine Ae 2 ?_
 refine Ao (decide (a<(p.homes.length:Int))) (λhx2=>?_) (λhx2=>?_)
 have hx2d:=of_decide_eq_true hx2
 refine Bg 21 _ true hx2 ?_
 refine Ae 6 ?_
 refine As [1,3,27] ?_
 refine Ca (Bu 1 [6] ?_)
 refine Be ?_
 exact⟨.inl rfl,(Bv results6 (Ak (x:= .bool false) (by kernel_rfl) (by kernel_rfl))).cast (congrArg AV.bool (Ce (by rintro⟨g1,g2,g3,g4,g5⟩;first|omega|(have:=g4 i (by omega);omega)|(have:=g5 j (by omega);omega))).symm)⟩
 have hx2d:=of_decide_eq_false hx2
 refine Bg 21 _ false hx2 ?_
 refine Ae 2 ?_
 refine Ei (.int (p.acts.length:Int)) .none (Dg (.tmp 23) 24 #[24] underlying24 p.acts.length (.inl ⟨3,(λi0=>Fq (p.acts.getD i0 Ac.none)),by kernel_rfl⟩)) ?_
 refine Ae 1 ?_
 refine Ga (decide (k<(p.acts.length:Int))) ?_
 refine Ae 1 ?_
 refine As [1,3,27] ?_
 refine Ao (decide (k<(p.acts.length:Int))) (λhx3=>?_) (λhx3=>?_)
 have hx3d:=of_decide_eq_true hx3
 refine qT hx3 ?_
 refine Bu 1 [6] ?_
 refine Be ?_
 exact⟨.inl rfl,(Bv results6 (Ak (x:= .bool false) (by kernel_rfl) (by kernel_rfl))).cast (congrArg AV.bool (Ce (by rintro⟨g1,g2,g3,g4,g5⟩;first|omega|(have:=g4 i (by omega);omega)|(have:=g5 j (by omega);omega))).symm)⟩
 have hx3d:=of_decide_eq_false hx3
 refine qF hx3 ?_
 refine Aw (Al ?_)
 refine Bu 1 [1,3,7] ?_
 refine Bb (Cn (λm s=>∃i,i<=p.names.length/\m=p.names.length-i/\(∀q,q<i->(p.names.getD q ByteArray.empty).size<=60)/\s=⟨[(1,.int a),(3,.ptr 0 0),(7,.int (i:Int))],[(0,.box 26 [Po p.names,Wg p.homes,Qi p.acts])],1,68⟩) p.names.length ⟨0,Nat.zero_le _,rfl,(λq hq=>absurd hq (Nat.not_lt_zero q)),(by kernel_rfl)⟩ ?_)
 rintro _ _ ⟨i,hin,rfl,hFi,rfl⟩
 refine Al (Ab ?_)
 refine Ae 3 ?_
 refine Bl (.int (p.names.length:Int)) (Dg (.tmp 30) 22 #[22] underlying22 p.names.length (.inl ⟨1,(λi0=> .lit (.string (p.names.getD i0 ByteArray.empty))),by kernel_rfl⟩)) ?_
 refine qb (decide ((i:Int)<(p.names.length:Int))) ?_
 refine As [1,3,7,32] ?_
 refine Ao (decide ((i:Int)<(p.names.length:Int))) (λhx4=>?_) (λhx4=>?_)
 have hx4d:=of_decide_eq_true hx4
 refine qT hx4 ?_
 refine Aw (Al ?_)
 refine Bb (Ab ?_)
 refine Ae 3 ?_
 refine Bl (.elt 1 (λq=>AV.cell (.lit (.string (p.names.getD i ByteArray.empty))) q)) (Bk 22 (.tmp 36) (.tmp 37) underlying22 1 p.names.length i (λi0=> .lit (.string (p.names.getD i0 ByteArray.empty))) (i:Int) sizeOf9) ?_
 refine Ae 1 ?_
 refine qi (ByteArray.size (p.names.getD i ByteArray.empty):Int) ?_
 refine qb (decide ((60:Int)<(ByteArray.size (p.names.getD i ByteArray.empty):Int))) ?_
 refine As [1,3,7,41] ?_
 refine Ao (decide ((60:Int)<(ByteArray.size (p.names.getD i ByteArray.empty):Int))) (λhx5=>?_) (λhx5=>?_)
 have hx5d:=of_decide_eq_true hx5
 refine qT hx5 ?_
 refine Bu 1 [6] ?_
 refine Be ?_
 exact⟨.inl rfl,(Bv results6 (Ak (x:= .bool false) (by kernel_rfl) (by kernel_rfl))).cast (congrArg AV.bool (Ce (by rintro⟨g1,g2,g3,g4,g5⟩;first|omega|(have:=g4 i (by omega);omega)|(have:=g5 j (by omega);omega))).symm)⟩
 have hx5d:=of_decide_eq_false hx5
 refine qF hx5 ?_
 refine Aw (Bi ?_)
 refine Ae 1 ?_
 refine qw ((i:Int)+1) ((i+1:Nat):Int) ?_
 refine Ae 1 ?_
 refine Bx [1,3,7] ?_
 exact⟨_,(by omega:p.names.length-(i+1)<p.names.length-i),i+1,(by omega),rfl,(λq hq=>(Nat.lt_or_ge q i).elim (λg=>hFi q g) λg=>by have e:q=i:=(by omega);subst e;omega),(by kernel_rfl)⟩
 have hx4d:=of_decide_eq_false hx4
 refine qF hx4 ?_
 refine Co (Al ?_)
 refine Bu 1 [1,3,8] ?_
 refine Bb (Cn (λm s=>∃j,j<=p.acts.length/\m=p.acts.length-j/\(∀q,q<j->(p.acts.getD q Ac.none).name.size<=60/\((p.acts.getD q Ac.none).moves.length:Int)<=a)/\s=⟨[(1,.int a),(3,.ptr 0 0),(8,.int (j:Int))],[(0,.box 26 [Po p.names,Wg p.homes,Qi p.acts])],1,68⟩) p.acts.length ⟨0,Nat.zero_le _,rfl,(λq hq=>absurd hq (Nat.not_lt_zero q)),(by kernel_rfl)⟩ ?_)
 rintro _ _ ⟨j,hjn,rfl,hFj,rfl⟩
 refine Al (Ab ?_)
 refine Ae 3 ?_
 refine Bl (.int (p.acts.length:Int)) (Dg (.tmp 44) 24 #[24] underlying24 p.acts.length (.inl ⟨3,(λi0=>Fq (p.acts.getD i0 Ac.none)),by kernel_rfl⟩)) ?_
 refine qb (decide ((j:Int)<(p.acts.length:Int))) ?_
 refine As [1,3,8,46] ?_
 refine Ao (decide ((j:Int)<(p.acts.length:Int))) (λhx6=>?_) (λhx6=>?_)
 have hx6d:=of_decide_eq_true hx6
 refine qT hx6 ?_
 refine Aw (Al ?_)
 refine Bb (Ab ?_)
 refine Ae 3 ?_
 refine Bl (.elt 3 (λq=>AV.cell (Fq (p.acts.getD j Ac.none)) q)) (Bk 24 (.tmp 50) (.tmp 51) underlying24 3 p.acts.length j (λi0=>Fq (p.acts.getD i0 Ac.none)) (j:Int) sizeOf60) ?_
 refine Ae 2 ?_
 refine qi (ByteArray.size ((p.acts.getD j Ac.none).name):Int) ?_
 refine qb (decide ((60:Int)<(ByteArray.size ((p.acts.getD j Ac.none).name):Int))) ?_
 refine Ae 1 ?_
 refine Ao (decide ((60:Int)<(ByteArray.size ((p.acts.getD j Ac.none).name):Int))) (λhx7=>?_) (λhx7=>?_)
 have hx7d:=of_decide_eq_true hx7
 refine Bg 57 _ true hx7 ?_
 refine Ae 10 ?_
 refine As [1,3,8,67] ?_
 refine Ca (Bu 1 [6] ?_)
 refine Be ?_
 exact⟨.inl rfl,(Bv results6 (Ak (x:= .bool false) (by kernel_rfl) (by kernel_rfl))).cast (congrArg AV.bool (Ce (by rintro⟨g1,g2,g3,g4,g5⟩;first|omega|(have:=g4 i (by omega);omega)|(have:=g5 j (by omega);omega))).symm)⟩
 have hx7d:=of_decide_eq_false hx7
 refine Bg 57 _ false hx7 ?_
 refine Ae 3 ?_
 refine Ei (.elt 3 (λq=>AV.cell (Fq (p.acts.getD j Ac.none)) q)) .none (Bk 24 (.tmp 59) (.tmp 60) underlying24 3 p.acts.length j (λi0=>Fq (p.acts.getD i0 Ac.none)) (j:Int) sizeOf60) ?_
 refine Ae 2 ?_
 refine Ei (.int ((p.acts.getD j Ac.none).moves.length:Int)) .none (Dg (.tmp 63) 58 #[58] underlying58 ((p.acts.getD j Ac.none).moves.length) (.inl ⟨6,(λi0=>Wj ((p.acts.getD j Ac.none).moves.getD i0 Mv.none)),by kernel_rfl⟩)) ?_
 refine Ae 1 ?_
 refine Ga (decide (a<((p.acts.getD j Ac.none).moves.length:Int))) ?_
 refine Ae 1 ?_
 refine As [1,3,8,67] ?_
 refine Ao (decide (a<((p.acts.getD j Ac.none).moves.length:Int))) (λhx8=>?_) (λhx8=>?_)
 have hx8d:=of_decide_eq_true hx8
 refine qT hx8 ?_
 refine Bu 1 [6] ?_
 refine Be ?_
 exact⟨.inl rfl,(Bv results6 (Ak (x:= .bool false) (by kernel_rfl) (by kernel_rfl))).cast (congrArg AV.bool (Ce (by rintro⟨g1,g2,g3,g4,g5⟩;first|omega|(have:=g4 i (by omega);omega)|(have:=g5 j (by omega);omega))).symm)⟩
 have hx8d:=of_decide_eq_false hx8
 refine qF hx8 ?_
 refine Aw (Bi ?_)
 refine Ae 1 ?_
 refine qw ((j:Int)+1) ((j+1:Nat):Int) ?_
 refine Ae 1 ?_
 refine Bx [1,3,8] ?_
 exact⟨_,(by omega:p.acts.length-(j+1)<p.acts.length-j),j+1,(by omega),rfl,(λq hq=>(Nat.lt_or_ge q j).elim (λg=>hFj q g) λg=>by have e:q=j:=(by omega);subst e;omega),(by kernel_rfl)⟩
 have hx6d:=of_decide_eq_false hx6
 refine qF hx6 ?_
 refine Co (Bu 1 [6] ?_)
 refine Be ?_
 exact⟨.inl rfl,(Bv results6 (Ak (x:= .bool true) (by kernel_rfl) (by kernel_rfl))).cast (congrArg AV.bool (Dq (⟨by omega,by omega,by omega,λq hq=>hFi q (by omega),λq hq=>hFj q (by omega)⟩)).symm)⟩
theorem wO (d:De):AF Tryz.prog 7 [Fy d] (.bool (decide ((d.sides.length:Int)<=17))):=by
 refine Dl ⟨[(0,Fy d)],[],0,7⟩ func7 rfl 7 ntmps7 (by kernel_rfl) (by kernel_rfl) λB D0 hA0=>?_
 refine Bu 2 [1] ?_
 refine Ab (Ae 2 ?_)
 refine Bl (.int (d.sides.length:Int)) (Ih (.tmp 4) 23 #[23] underlying23 3 d.sides.length (λi0=>Ew (d.sides.getD i0 V3.zero))) ?_
 refine qb (decide ((d.sides.length:Int)<=17)) ?_
 refine Ae 1 ?_
 refine As [2] ?_
 refine Be ?_
 exact⟨.inl rfl,(Bv results7 (Ak (x:= .bool (decide ((d.sides.length:Int)<=17))) (by kernel_rfl) (by kernel_rfl))).cast (by kernel_rfl)⟩
def Tj (n:Nat) (p:Nat->Bool):Int:=match (List.range n).find? p with|some i=>(i:Int)|none=> -1
theorem yN (n:Nat) (p:Nat->Bool) (h:∀q,q<n->p q=false):Tj n p= -1:=by
 have:(List.range n).find? p=none:=List.find?_eq_none.2 λq hq=>by simp[h q (List.mem_range.1 hq)]
 unfold Tj;rw[this]
theorem Abd (n:Nat) (p:Nat->Bool) (i:Nat) (hi:i<n) (h:∀q,q<i->p q=false) (h2:p i=true):Tj n p=(i:Int):=by
 have:(List.range n).find? p=some i:=List.find?_range_eq_some.2 ⟨h2,by simpa using hi,λj hj=>by simp[h j hj]⟩
 unfold Tj;rw[this]
theorem wS (l:List V3) (n:Nat) (v:V3) (hn:n<=1000000):AF Tryz.prog 51 [.sl 3 n λi=>Ew (l.getD i V3.zero),Ew v] (.int (Tj n λi=>decide ((l.getD i V3.zero).x=v.x/\(l.getD i V3.zero).y=v.y/\(l.getD i V3.zero).z=v.z))):=by
 refine Dl ⟨[(0,.sl 3 n (λi0=>Ew (l.getD i0 V3.zero))),(1,Ew v)],[],0,19⟩ func51 rfl 19 ntmps51 (by kernel_rfl) (by kernel_rfl) λB D0 hA0=>?_
 refine Bu 2 [0,3] ?_
 refine Al (Ab ?_)
 refine Ae 1 ?_
 refine Bl (.int (n:Int)) (Dg (.tmp 6) 23 #[23] underlying23 n (.inl ⟨3,(λi0=>Ew (l.getD i0 V3.zero)),by kernel_rfl⟩)) ?_
 refine Ae 1 ?_
 refine As [0,3,7,8] ?_
 refine Bb (Cn (λm s=>∃i,i<=n/\m=n-i/\(∀q,q<i->decide ((l.getD q V3.zero).x=v.x/\(l.getD q V3.zero).y=v.y/\(l.getD q V3.zero).z=v.z)=false)/\s=⟨[(0,.sl 3 n (λi0=>Ew (l.getD i0 V3.zero))),(3,.ptr 0 0),(7,.int (n:Int)),(8,.int (i:Int))],[(0,.box 55 [.int v.x,.int v.y,.int v.z])],1,19⟩) n ⟨0,Nat.zero_le _,rfl,(λq hq=>absurd hq (Nat.not_lt_zero q)),(by kernel_rfl)⟩ ?_)
 rintro _ _ ⟨i,hin,rfl,hFi,rfl⟩
 refine Ab (qb (decide ((i:Int)<(n:Int))) ?_)
 refine As [0,3,7,8,9] ?_
 refine Al ?_
 refine Ao (decide ((i:Int)<(n:Int))) (λhx1=>?_) (λhx1=>?_)
 have hx1d:=of_decide_eq_true hx1
 refine qT hx1 ?_
 refine Aw (Al ?_)
 refine Bb (Bu 2 [0,3,5,7,8] ?_)
 refine Dk [(3,.elt 3 (λq=>AV.cell (Ew (l.getD i V3.zero)) q),.none),(5,.bool (decide (v.x=(l.getD i V3.zero).x/\v.y=(l.getD i V3.zero).y/\v.z=(l.getD i V3.zero).z)),.none)] [0,3,5,7,8,16] 1 ⟨?_,?_,trivial⟩ ?_
 exact Bn (Bk 23 (.tmp 12) (.tmp 13) underlying23 3 n i (λi0=>Ew (l.getD i0 V3.zero)) (i:Int) sizeOf55)
 exact Bn (Vr 55 55 (.tmp 11) (.tmp 15) (by kernel_rfl) _ _ (by kernel_rfl) (by kernel_rfl) (by kernel_rfl) (decide (v.x=(l.getD i V3.zero).x/\v.y=(l.getD i V3.zero).y/\v.z=(l.getD i V3.zero).z)) (Ww _ _ _ _ _ _))
 refine Ao (decide (v.x=(l.getD i V3.zero).x/\v.y=(l.getD i V3.zero).y/\v.z=(l.getD i V3.zero).z)) (λhx2=>?_) (λhx2=>?_)
 have hx2d:=of_decide_eq_true hx2
 refine qT hx2 ?_
 refine Bu 2 [4] ?_
 refine Be ?_
 exact⟨.inl rfl,(Bv results51 (Ak (x:= .int (i:Int)) (by kernel_rfl) (by kernel_rfl))).cast (congrArg AV.int (Abd n _ i (by omega) (λq hq=>hFi q hq) (by simp only[decide_eq_true_eq];omega)).symm)⟩
 have hx2d:=of_decide_eq_false hx2
 refine qF hx2 ?_
 refine Aw (Bi ?_)
 refine qw ((i:Int)+1) ((i+1:Nat):Int) ?_
 refine Ae 1 ?_
 refine Bx [0,3,7,8] ?_
 exact⟨_,(by omega:n-(i+1)<n-i),i+1,(by omega),rfl,(λq hq=>(Nat.lt_or_ge q i).elim (λg=>hFi q g) λg=>by have e:q=i:=(by omega);subst e;simp only[decide_eq_false_iff_not];omega),(by kernel_rfl)⟩
 have hx1d:=of_decide_eq_false hx1
 refine qF hx1 ?_
 refine Co (Bu 1 [4] ?_)
 refine Be ?_
 exact⟨.inl rfl,(Bv results51 (Ak (x:= .int (-1)) (by kernel_rfl) (by kernel_rfl))).cast (congrArg AV.int (yN n _ λq hq=>hFi q (by omega)).symm)⟩
def Et (l:List Ac):Nat->Int
 |0=>0
 |k+1=>Et l k+(l.getD k Ac.none).len
theorem aT {p:Pr} {k:Nat} {t:Int} {m:List Int}:∀{i:Nat} {l:List Int},Fc p k t m i=some l->∀j,j<i->Qk p k t j=0
 |0,_,_,j,hj=>absurd hj (Nat.not_lt_zero j)
 |i+1,l,h,j,hj=>by
  rw[Fc] at h
  cases h1:Fc p k t m i with
  |none=>rw[h1] at h;cases h
  |some l1=>
   rw[h1] at h
   simp only at h
   split at h
   rename_i hc
   rcases Nat.lt_or_ge j i with hji|hji
   exact aT h1 j hji
   have:j=i:=by omega
   subst this
   exact hc.1
   cases h
theorem cC {p:Pr}:∀{k:Nat} {t:Int} {m:List Int},Kn p k=some (t,m)->t=Et p.acts k/\0<=t/\t<=3600000/\∀j,j<k->(0<=Et p.acts j/\Et p.acts j<=3600000)/\1<=(p.acts.getD j Ac.none).len/\(p.acts.getD j Ac.none).moves.length=p.names.length/\∀i,i<p.names.length->Qk p j (Et p.acts j) i=0
 |0,t,m,h=>by
  simp only[Kn,Option.some.injEq,Prod.mk.injEq] at h
  obtain⟨rfl,_⟩:=h
  exact⟨rfl,Int.le_refl _,by decide,λj hj=>absurd hj (Nat.not_lt_zero j)⟩
 |k+1,t,m,h=>by
  rw[Kn] at h
  cases h1:Kn p k with
  |none=>rw[h1] at h;cases h
  |some tm=>
   obtain⟨t1,m1⟩:=tm
   rw[h1] at h
   simp only at h
   split at h
   rename_i hc
   cases h2:Fc p k t1 m1 p.names.length with
   |none=>rw[h2] at h;cases h
   |some m2=>
    rw[h2] at h
    simp only[Option.some.injEq,Prod.mk.injEq] at h
    obtain⟨rfl,rfl⟩:=h
    obtain⟨e1,e2,e3,e4⟩:=cC h1
    refine⟨by rw[Et,e1],by omega,by omega,λj hj=>?_⟩
    rcases Nat.lt_or_ge j k with hjk|hjk
    exact e4 j hjk
    have:j=k:=by omega
    subst this
    rw[<-e1]
    exact⟨⟨e2,e3⟩,hc.2.1,hc.2.2.2,aT h2⟩
   cases h
structure fM (p:Pr):Prop where
 n1:1<=p.names.length/\p.names.length<=64
 homes:p.homes.length=p.names.length
 acts:p.acts.length<=60
 ends:∀j,j<=p.acts.length->0<=Et p.acts j/\Et p.acts j<=3600000
 len:∀j,j<p.acts.length->1<=(p.acts.getD j Ac.none).len
 mv:∀j,j<p.acts.length->(p.acts.getD j Ac.none).moves.length=p.names.length
 pe:∀j i,j<p.acts.length->i<p.names.length->Qk p j (Et p.acts j) i=0
theorem Eo {p:Pr} (h:Da p=true):fM p:=by
 unfold Da at h
 simp only[Bool.and_eq_true,decide_eq_true_eq] at h
 obtain⟨⟨h1,h2⟩,h3⟩:=h
 unfold Ra at h1
 simp only[Bool.and_eq_true,decide_eq_true_eq] at h1
 obtain⟨tm,ht⟩:=Option.isSome_iff_exists.1 h3
 obtain⟨t,m⟩:=tm
 obtain⟨e1,e2,e3,e4⟩:=cC ht
 refine⟨⟨h1.1.1.1,h1.1.1.2⟩,h1.1.2,h2,λj hj=>?_,λj hj=>(e4 j hj).2.1,λj hj=>(e4 j hj).2.2.1,λj i hj hi=>(e4 j hj).2.2.2 i hi⟩
 rcases Nat.lt_or_ge j p.acts.length with hlt|hge
 exact(e4 j hlt).1
 have:j=p.acts.length:=by omega
 subst this
 rw[<-e1];exact⟨e2,e3⟩
theorem fM.to {p:Pr} (h:fM p) {j i:Nat} (hj:j<p.acts.length) (hi:i<p.names.length):Ft 1048576 [((p.acts.getD j Ac.none).moves.getD i Mv.none).to.x,((p.acts.getD j Ac.none).moves.getD i Mv.none).to.y,((p.acts.getD j Ac.none).moves.getD i Mv.none).to.z]=true:=by
 have:=h.pe j i hj hi
 unfold Qk pF at this
 split at this
 rename_i hb
 unfold tpB mV at hb
 simp only[Bool.and_eq_true] at hb
 have h2:Tf ((p.acts.getD j Ac.none).moves.getD i Mv.none).to.x ((p.acts.getD j Ac.none).moves.getD i Mv.none).to.y ((p.acts.getD j Ac.none).moves.getD i Mv.none).to.z=true:=by
  revert hb
  simp only[and_imp]
  intros
  assumption
 exact h2
 cases this
theorem getD_in {l:List Ac} (h:∀a∈l,Cj a.len) (i:Nat):Cj (l.getD i Ac.none).len:=by
 rw[List.getD_eq_getElem?_getD]
 cases hi:l[i]? with
 |none=>exact⟨by decide,by decide⟩
 |some a=>exact h a (List.mem_of_getElem? hi)
abbrev vOk (v:V3):Bool:=Ft 16777216 [v.x,v.y,v.z]
def Hj (d:De):Prop:=(1<=d.sides.length/\d.sides.length<=16/\1<=d.across/\d.across<=3600000/\1<=d.down/\d.down<=3600000/\-1048576<=d.ground/\d.ground<=1048576)/\∀i,i<d.sides.length->vOk (d.sides.getD i V3.zero)=true/\(d.sides.getD i V3.zero).z=0/\∀j,j<i->¬((d.sides.getD j V3.zero).x=(d.sides.getD i V3.zero).x/\(d.sides.getD j V3.zero).y=(d.sides.getD i V3.zero).y/\(d.sides.getD j V3.zero).z=(d.sides.getD i V3.zero).z)
structure Wp (d:De):Prop where
 n:d.sides.length<=1000000
 ac:Cj d.across
 dn:Cj d.down
 gr:Cj d.ground
theorem kN (n:Nat) (p:Nat->Bool):0<=Tj n p↔∃q,q<n/\p q=true:=by
 unfold Tj
 cases h:(List.range n).find? p with
 |none=>
  have:=List.find?_eq_none.1 h
  constructor
  intro h;exact absurd h (by decide)
  rintro⟨q,hq,hp⟩
  exact absurd hp (this q (List.mem_range.2 hq))
 |some i=>
  have h1:=List.find?_some h
  have h2:=List.mem_of_find?_eq_some h
  exact⟨λ_=>⟨i,List.mem_range.1 h2,h1⟩,λ_=>Int.natCast_nonneg i⟩
theorem jJ (l:List V3) (n:Nat) (v:V3) (hn:n<=1000000):AF Tryz.prog 28 [.sl 3 n λi=>Ew (l.getD i V3.zero),Ew v] (.bool (bP (∃q,q<n/\(l.getD q V3.zero).x=v.x/\(l.getD q V3.zero).y=v.y/\(l.getD q V3.zero).z=v.z))):=by
 have HQ:decide ((0:Int)<=Tj n λi=>decide ((l.getD i V3.zero).x=v.x/\(l.getD i V3.zero).y=v.y/\(l.getD i V3.zero).z=v.z))=bP (∃q,q<n/\(l.getD q V3.zero).x=v.x/\(l.getD q V3.zero).y=v.y/\(l.getD q V3.zero).z=v.z):=by
  by_cases h:∃q,q<n/\(l.getD q V3.zero).x=v.x/\(l.getD q V3.zero).y=v.y/\(l.getD q V3.zero).z=v.z
  rw[Dq h,decide_eq_true_eq,kN]
  obtain⟨q,hq,h⟩:=h
  exact⟨q,hq,by simpa using h⟩
  rw[Ce h,decide_eq_false_iff_not,kN]
  rintro⟨q,hq,h2⟩
  exact h ⟨q,hq,by simpa using h2⟩
 refine Dl ⟨[(0,.sl 3 n (λi0=>Ew (l.getD i0 V3.zero))),(1,Ew v)],[],0,9⟩ func28 rfl 9 ntmps28 (by kernel_rfl) (by kernel_rfl) λB D0 hA0=>?_
 refine Bu 2 [0,3] ?_
 refine Ab (Ae 2 ?_)
 refine Fg (wS l n v hn) ?_
 refine qb (decide ((0:Int)<=Tj n (λi=>decide ((l.getD i V3.zero).x=v.x/\(l.getD i V3.zero).y=v.y/\(l.getD i V3.zero).z=v.z)))) ?_
 refine Ae 1 ?_
 refine As [4] ?_
 refine Be ?_
 exact⟨.inl rfl,(Bv results28 (Ak (x:= .bool (decide ((0:Int)<=Tj n (λi=>decide ((l.getD i V3.zero).x=v.x/\(l.getD i V3.zero).y=v.y/\(l.getD i V3.zero).z=v.z))))) (by kernel_rfl) (by kernel_rfl))).cast (congrArg AV.bool HQ)⟩
theorem Js (d:De) (hd:Wp d):AF Tryz.prog 10 [Fy d] (.bool (bP (Hj d))):=by
 have hdn:=hd.n
 refine Dl ⟨[(0,Fy d)],[],0,70⟩ func10 rfl 70 ntmps10 (by kernel_rfl) (by kernel_rfl) λB D0 hA0=>?_
 refine Bu 2 [1] ?_
 refine Al (Ab ?_)
 refine Ae 2 ?_
 refine Bl (.int (d.sides.length:Int)) (Ih (.tmp 6) 23 #[23] underlying23 3 d.sides.length (λi0=>Ew (d.sides.getD i0 V3.zero))) ?_
 refine qb (decide ((d.sides.length:Int)<1)) ?_
 refine Ae 1 ?_
 refine Ao (decide ((d.sides.length:Int)<1)) (λhx1=>?_) (λhx1=>?_)
 have hx1d:=of_decide_eq_true hx1
 refine Bg 9 _ true hx1 ?_
 refine Ae 35 ?_
 refine As [1,44] ?_
 refine Ca (Bu 1 [2] ?_)
 refine Be ?_
 exact⟨.inl rfl,(Bv results10 (Ak (x:= .bool false) (by kernel_rfl) (by kernel_rfl))).cast (congrArg AV.bool (Ce (by rintro⟨⟨g1,g2,g3,g4,g5,g6,g7,g8⟩,g9⟩;first|omega|(have g:=(g9 i (by omega)).2.1;omega))).symm)⟩
 have hx1d:=of_decide_eq_false hx1
 refine Bg 9 _ false hx1 ?_
 refine Ae 2 ?_
 refine Ei (.int (d.sides.length:Int)) .none (Ih (.tmp 11) 23 #[23] underlying23 3 d.sides.length (λi0=>Ew (d.sides.getD i0 V3.zero))) ?_
 refine Ga (decide ((16:Int)<(d.sides.length:Int))) ?_
 refine Ae 2 ?_
 refine Ao (decide ((16:Int)<(d.sides.length:Int))) (λhx2=>?_) (λhx2=>?_)
 have hx2d:=of_decide_eq_true hx2
 refine Bg 15 _ true hx2 ?_
 refine Ae 29 ?_
 refine As [1,44] ?_
 refine Ca (Bu 1 [2] ?_)
 refine Be ?_
 exact⟨.inl rfl,(Bv results10 (Ak (x:= .bool false) (by kernel_rfl) (by kernel_rfl))).cast (congrArg AV.bool (Ce (by rintro⟨⟨g1,g2,g3,g4,g5,g6,g7,g8⟩,g9⟩;first|omega|(have g:=(g9 i (by omega)).2.1;omega))).symm)⟩
 have hx2d:=of_decide_eq_false hx2
 refine Bg 15 _ false hx2 ?_
 refine Ae 2 ?_
 refine Ga (decide (d.across<1)) ?_
 refine Ae 2 ?_
 refine Ao (decide (d.across<1)) (λhx3=>?_) (λhx3=>?_)
 have hx3d:=of_decide_eq_true hx3
 refine Bg 20 _ true hx3 ?_
 refine Ae 24 ?_
 refine As [1,44] ?_
 refine Ca (Bu 1 [2] ?_)
 refine Be ?_
 exact⟨.inl rfl,(Bv results10 (Ak (x:= .bool false) (by kernel_rfl) (by kernel_rfl))).cast (congrArg AV.bool (Ce (by rintro⟨⟨g1,g2,g3,g4,g5,g6,g7,g8⟩,g9⟩;first|omega|(have g:=(g9 i (by omega)).2.1;omega))).symm)⟩
 have hx3d:=of_decide_eq_false hx3
 refine Bg 20 _ false hx3 ?_
 refine Ae 2 ?_
 refine Ga (decide ((3600000:Int)<d.across)) ?_
 refine Ae 2 ?_
 refine Ao (decide ((3600000:Int)<d.across)) (λhx4=>?_) (λhx4=>?_)
 have hx4d:=of_decide_eq_true hx4
 refine Bg 25 _ true hx4 ?_
 refine Ae 19 ?_
 refine As [1,44] ?_
 refine Ca (Bu 1 [2] ?_)
 refine Be ?_
 exact⟨.inl rfl,(Bv results10 (Ak (x:= .bool false) (by kernel_rfl) (by kernel_rfl))).cast (congrArg AV.bool (Ce (by rintro⟨⟨g1,g2,g3,g4,g5,g6,g7,g8⟩,g9⟩;first|omega|(have g:=(g9 i (by omega)).2.1;omega))).symm)⟩
 have hx4d:=of_decide_eq_false hx4
 refine Bg 25 _ false hx4 ?_
 refine Ae 2 ?_
 refine Ga (decide (d.down<1)) ?_
 refine Ae 2 ?_
 refine Ao (decide (d.down<1)) (λhx5=>?_) (λhx5=>?_)
 have hx5d:=of_decide_eq_true hx5
 refine Bg 30 _ true hx5 ?_
 refine Ae 14 ?_
 refine As [1,44] ?_
 refine Ca (Bu 1 [2] ?_)
 refine Be ?_
 exact⟨.inl rfl,(Bv results10 (Ak (x:= .bool false) (by kernel_rfl) (by kernel_rfl))).cast (congrArg AV.bool (Ce (by rintro⟨⟨g1,g2,g3,g4,g5,g6,g7,g8⟩,g9⟩;first|omega|(have g:=(g9 i (by omega)).2.1;omega))).symm)⟩
 have hx5d:=of_decide_eq_false hx5
 refine Bg 30 _ false hx5 ?_
 refine Ae 2 ?_
 refine Ga (decide ((3600000:Int)<d.down)) ?_
 refine Ae 2 ?_
 refine Ao (decide ((3600000:Int)<d.down)) (λhx6=>?_) (λhx6=>?_)
 have hx6d:=of_decide_eq_true hx6
 refine Bg 35 _ true hx6 ?_
 refine Ae 9 ?_
 refine As [1,44] ?_
 refine Ca (Bu 1 [2] ?_)
 refine Be ?_
 exact⟨.inl rfl,(Bv results10 (Ak (x:= .bool false) (by kernel_rfl) (by kernel_rfl))).cast (congrArg AV.bool (Ce (by rintro⟨⟨g1,g2,g3,g4,g5,g6,g7,g8⟩,g9⟩;first|omega|(have g:=(g9 i (by omega)).2.1;omega))).symm)⟩
 have hx6d:=of_decide_eq_false hx6
 refine Bg 35 _ false hx6 ?_
 refine Ae 2 ?_
 refine Ga (decide (d.ground< -1048576)) ?_
 refine Ae 2 ?_
 refine Ao (decide (d.ground< -1048576)) (λhx7=>?_) (λhx7=>?_)
 have hx7d:=of_decide_eq_true hx7
 refine Bg 40 _ true hx7 ?_
 refine Ae 4 ?_
 refine As [1,44] ?_
 refine Ca (Bu 1 [2] ?_)
 refine Be ?_
 exact⟨.inl rfl,(Bv results10 (Ak (x:= .bool false) (by kernel_rfl) (by kernel_rfl))).cast (congrArg AV.bool (Ce (by rintro⟨⟨g1,g2,g3,g4,g5,g6,g7,g8⟩,g9⟩;first|omega|(have g:=(g9 i (by omega)).2.1;omega))).symm)⟩
 have hx7d:=of_decide_eq_false hx7
 refine Bg 40 _ false hx7 ?_
 refine Ae 2 ?_
 refine Ga (decide ((1048576:Int)<d.ground)) ?_
 refine Ae 1 ?_
 refine As [1,44] ?_
 refine Ao (decide ((1048576:Int)<d.ground)) (λhx8=>?_) (λhx8=>?_)
 have hx8d:=of_decide_eq_true hx8
 refine qT hx8 ?_
 refine Bu 1 [2] ?_
 refine Be ?_
 exact⟨.inl rfl,(Bv results10 (Ak (x:= .bool false) (by kernel_rfl) (by kernel_rfl))).cast (congrArg AV.bool (Ce (by rintro⟨⟨g1,g2,g3,g4,g5,g6,g7,g8⟩,g9⟩;first|omega|(have g:=(g9 i (by omega)).2.1;omega))).symm)⟩
 have hx8d:=of_decide_eq_false hx8
 refine qF hx8 ?_
 refine Aw (Al ?_)
 refine Ab (Ae 2 ?_)
 refine Bl (.int (d.sides.length:Int)) (Ih (.tmp 46) 23 #[23] underlying23 3 d.sides.length (λi0=>Ew (d.sides.getD i0 V3.zero))) ?_
 refine Ae 1 ?_
 refine As [1,46,47,48] ?_
 refine Bb (Cn (λm s=>∃i,i<=d.sides.length/\m=d.sides.length-i/\(∀q,q<i->vOk (d.sides.getD q V3.zero)=true/\(d.sides.getD q V3.zero).z=0/\∀j,j<q->¬((d.sides.getD j V3.zero).x=(d.sides.getD q V3.zero).x/\(d.sides.getD j V3.zero).y=(d.sides.getD q V3.zero).y/\(d.sides.getD j V3.zero).z=(d.sides.getD q V3.zero).z))/\s=⟨[(1,.ptr 0 0),(46,cE d.sides),(47,.int (d.sides.length:Int)),(48,.int (i:Int))],[(0,.box 28 [cE d.sides,.int d.across,.int d.down,.int d.ground])],1,70⟩) d.sides.length ⟨0,Nat.zero_le _,rfl,(λq hq=>absurd hq (Nat.not_lt_zero q)),(by kernel_rfl)⟩ ?_)
 rintro _ _ ⟨i,hin,rfl,hFi,rfl⟩
 refine Ab (qb (decide ((i:Int)<(d.sides.length:Int))) ?_)
 refine As [1,46,47,48,49] ?_
 refine Al ?_
 refine Ao (decide ((i:Int)<(d.sides.length:Int))) (λhx9=>?_) (λhx9=>?_)
 have hx9d:=of_decide_eq_true hx9
 refine qT hx9 ?_
 refine Aw (Al ?_)
 refine Bb (Ab ?_)
 refine Ae 1 ?_
 refine Bl (.elt 3 (λq=>AV.cell (Ew (d.sides.getD i V3.zero)) q)) (Fb.wk (Bk 23 (.tmp 46) (.tmp 48) underlying23 3 d.sides.length i (λi0=>Ew (d.sides.getD i0 V3.zero)) (i:Int) sizeOf55)) ?_
 refine Ae 4 ?_
 refine As [1,3,4,46,47,48] ?_
 refine Ao (Ft 16777216 [(d.sides.getD i V3.zero).x,(d.sides.getD i V3.zero).y,(d.sides.getD i V3.zero).z]) (λhx10=>?_) (λhx10=>?_)
 refine Ao (decide ((d.sides.getD i V3.zero).z=0)) (λhx11=>?_) (λhx11=>?_)
 have hx11d:=of_decide_eq_true hx11
 refine Dk [(1,.bool true,.none),(2,.bool false,.none),(6,.bool false,.none),(12,.sl 3 i (λi0=>Ew (d.sides.getD i0 V3.zero)),.none),(14,.bool (bP (∃q,q<i/\(d.sides.getD q V3.zero).x=(d.sides.getD i V3.zero).x/\(d.sides.getD q V3.zero).y=(d.sides.getD i V3.zero).y/\(d.sides.getD q V3.zero).z=(d.sides.getD i V3.zero).z)),.none)] [1,46,47,48,68] 2 ⟨?_,?_,?_,?_,?_,trivial⟩ ?_
 exact Fb.cast (Br 27 #[.tmp 53] #[55] [Ew (d.sides.getD i V3.zero)] (.bool (Ft 16777216 [(d.sides.getD i V3.zero).x,(d.sides.getD i V3.zero).y,(d.sides.getD i V3.zero).z])) (Sk (d.sides.getD i V3.zero))) (congrArg AV.bool hx10) (by kernel_rfl)
 exact uZ
 exact Fb.cast (Dx (v:= .bool (!decide ((d.sides.getD i V3.zero).z=0))) (v':= .bool (!decide ((d.sides.getD i V3.zero).z=0))) rfl _) (congrArg AV.bool (by rw[hx11];rfl)) (by kernel_rfl)
 exact Bn (vA 23 (.tmp 63) (.tmp 64) underlying23 3 d.sides.length sizeOf55 (λi0=>Ew (d.sides.getD i0 V3.zero)) i (.inr ⟨(.tmp 64),(i:Int),rfl,by kernel_rfl,by omega⟩))
 exact Oi (jJ d.sides i (d.sides.getD i V3.zero) (by omega))
 refine Ao (bP (∃q,q<i/\(d.sides.getD q V3.zero).x=(d.sides.getD i V3.zero).x/\(d.sides.getD q V3.zero).y=(d.sides.getD i V3.zero).y/\(d.sides.getD q V3.zero).z=(d.sides.getD i V3.zero).z)) (λhx12=>?_) (λhx12=>?_)
 refine qT hx12 ?_
 refine Bu 1 [2] ?_
 refine Be ?_
 exact⟨.inl rfl,(Bv results10 (Ak (x:= .bool false) (by kernel_rfl) (by kernel_rfl))).cast (congrArg AV.bool (Ce (by rintro⟨⟨g1,g2,g3,g4,g5,g6,g7,g8⟩,g9⟩;first|omega|(have g:=(g9 i (by omega)).2.1;omega)|(have g:=(g9 i (by omega)).1;unfold vOk at g;rw[hx10] at g;exact Bool.noConfusion g)|(obtain⟨q,hq,hc⟩:=Cq hx12;exact(g9 i (by omega)).2.2 q hq hc))).symm)⟩
 refine qF hx12 ?_
 refine Aw (Ee [1,46,47,48,68] ⟨[(1,.ptr 0 0),(46,cE d.sides),(47,.int (d.sides.length:Int)),(48,.int (i:Int)),(68,.bool false)],[(0,.box 28 [cE d.sides,.int d.across,.int d.down,.int d.ground]),(1,.box 55 [.int ((d.sides.getD i V3.zero).x),.int ((d.sides.getD i V3.zero).y),.int ((d.sides.getD i V3.zero).z)])],2,70⟩ ?_)
 refine Hg [(0,0)] 1 0 hA0 _ (Av (Av Cx)) ?_
 refine Bi (qw ((i:Int)+1) ((i+1:Nat):Int) ?_)
 refine Ae 1 ?_
 refine Bx [1,46,47,48] ?_
 exact⟨_,(by omega:d.sides.length-(i+1)<d.sides.length-i),i+1,(by omega),rfl,(λq hq=>(Nat.lt_or_ge q i).elim (λg=>hFi q g) λg=>by have e:q=i:=(by omega);subst e;exact⟨hx10,by omega,λj hj hc=>Tx hx12 ⟨j,hj,hc⟩⟩),(by kernel_rfl)⟩
 have hx11d:=of_decide_eq_false hx11
 refine Dk [(1,.bool true,.none),(2,.bool false,.none),(6,.bool true,.none)] [1,46,47,48,68] 2 ⟨?_,?_,?_,trivial⟩ ?_
 exact Fb.cast (Br 27 #[.tmp 53] #[55] [Ew (d.sides.getD i V3.zero)] (.bool (Ft 16777216 [(d.sides.getD i V3.zero).x,(d.sides.getD i V3.zero).y,(d.sides.getD i V3.zero).z])) (Sk (d.sides.getD i V3.zero))) (congrArg AV.bool hx10) (by kernel_rfl)
 exact uZ
 exact Fb.cast (Dx (v:= .bool (!decide ((d.sides.getD i V3.zero).z=0))) (v':= .bool (!decide ((d.sides.getD i V3.zero).z=0))) rfl _) (congrArg AV.bool (by rw[hx11];rfl)) (by kernel_rfl)
 refine Ca (Bu 1 [2] ?_)
 refine Be ?_
 exact⟨.inl rfl,(Bv results10 (Ak (x:= .bool false) (by kernel_rfl) (by kernel_rfl))).cast (congrArg AV.bool (Ce (by rintro⟨⟨g1,g2,g3,g4,g5,g6,g7,g8⟩,g9⟩;first|omega|(have g:=(g9 i (by omega)).2.1;omega)|(have g:=(g9 i (by omega)).1;unfold vOk at g;rw[hx10] at g;exact Bool.noConfusion g))).symm)⟩
 refine Dk [(1,.bool false,.none),(2,.bool true,.none)] [1,46,47,48,68] 2 ⟨?_,?_,trivial⟩ ?_
 exact Fb.cast (Br 27 #[.tmp 53] #[55] [Ew (d.sides.getD i V3.zero)] (.bool (Ft 16777216 [(d.sides.getD i V3.zero).x,(d.sides.getD i V3.zero).y,(d.sides.getD i V3.zero).z])) (Sk (d.sides.getD i V3.zero))) (congrArg AV.bool hx10) (by kernel_rfl)
 exact uZ
 refine Ca (Bu 1 [2] ?_)
 refine Be ?_
 exact⟨.inl rfl,(Bv results10 (Ak (x:= .bool false) (by kernel_rfl) (by kernel_rfl))).cast (congrArg AV.bool (Ce (by rintro⟨⟨g1,g2,g3,g4,g5,g6,g7,g8⟩,g9⟩;first|omega|(have g:=(g9 i (by omega)).2.1;omega)|(have g:=(g9 i (by omega)).1;unfold vOk at g;rw[hx10] at g;exact Bool.noConfusion g))).symm)⟩
 have hx9d:=of_decide_eq_false hx9
 refine qF hx9 ?_
 refine Co (Bu 1 [2] ?_)
 refine Be ?_
 exact⟨.inl rfl,(Bv results10 (Ak (x:= .bool true) (by kernel_rfl) (by kernel_rfl))).cast (congrArg AV.bool (Dq (by refine⟨⟨by omega,by omega,by omega,by omega,by omega,by omega,by omega,by omega⟩,λq hq=>hFi q (by omega)⟩)).symm)⟩
theorem Ia (d:De) (hd:Wp d):AF Tryz.prog 11 [Fy d] (.bool (bP (Hj d))):=by
 have hdn:=hd.n
 refine Dl ⟨[(0,Fy d)],[],0,84⟩ func11 rfl 84 ntmps11 (by kernel_rfl) (by kernel_rfl) λB D0 hA0=>?_
 refine Bu 2 [1] ?_
 refine Al (Bu 1 [1,3] ?_)
 refine Bb (Cn (λm s=>∃i,i<=d.sides.length/\m=d.sides.length-i/\(∀q,q<i->vOk (d.sides.getD q V3.zero)=true/\(d.sides.getD q V3.zero).z=0/\∀j,j<q->¬((d.sides.getD j V3.zero).x=(d.sides.getD q V3.zero).x/\(d.sides.getD j V3.zero).y=(d.sides.getD q V3.zero).y/\(d.sides.getD j V3.zero).z=(d.sides.getD q V3.zero).z))/\s=⟨[(1,.ptr 0 0),(3,.int (i:Int))],[(0,.box 28 [cE d.sides,.int d.across,.int d.down,.int d.ground])],1,84⟩) d.sides.length ⟨0,Nat.zero_le _,rfl,(λq hq=>absurd hq (Nat.not_lt_zero q)),(by kernel_rfl)⟩ ?_)
 rintro _ _ ⟨i,hin,rfl,hFi,rfl⟩
 refine Al (Ab ?_)
 refine Ae 3 ?_
 refine Bl (.int (d.sides.length:Int)) (Ih (.tmp 7) 23 #[23] underlying23 3 d.sides.length (λi0=>Ew (d.sides.getD i0 V3.zero))) ?_
 refine qb (decide ((i:Int)<(d.sides.length:Int))) ?_
 refine As [1,3,9] ?_
 refine Ao (decide ((i:Int)<(d.sides.length:Int))) (λhx1=>?_) (λhx1=>?_)
 have hx1d:=of_decide_eq_true hx1
 refine qT hx1 ?_
 refine Aw (Al ?_)
 refine Bb (Al ?_)
 refine Ab (Ae 3 ?_)
 refine Bl (.elt 3 (λq=>AV.cell (Ew (d.sides.getD i V3.zero)) q)) (Fb.wk (Bk 23 (.tmp 13) (.tmp 14) underlying23 3 d.sides.length i (λi0=>Ew (d.sides.getD i0 V3.zero)) (i:Int) sizeOf55)) ?_
 refine Ae 1 ?_
 refine Fg (Sk (d.sides.getD i V3.zero)) ?_
 refine qb (!Ft 16777216 [(d.sides.getD i V3.zero).x,(d.sides.getD i V3.zero).y,(d.sides.getD i V3.zero).z]) ?_
 refine Ae 1 ?_
 refine Ao (Ft 16777216 [(d.sides.getD i V3.zero).x,(d.sides.getD i V3.zero).y,(d.sides.getD i V3.zero).z]) (λhx2=>?_) (λhx2=>?_)
 refine Bg 19 _ false (nt hx2) ?_
 refine Ae 3 ?_
 refine Ei (.elt 3 (λq=>AV.cell (Ew (d.sides.getD i V3.zero)) q)) .none (Fb.wk (Bk 23 (.tmp 21) (.tmp 22) underlying23 3 d.sides.length i (λi0=>Ew (d.sides.getD i0 V3.zero)) (i:Int) sizeOf55)) ?_
 refine Ae 2 ?_
 refine Ga (!decide ((d.sides.getD i V3.zero).z=0)) ?_
 refine Ae 1 ?_
 refine As [1,3,27] ?_
 refine Ao (decide ((d.sides.getD i V3.zero).z=0)) (λhx3=>?_) (λhx3=>?_)
 have hx3d:=of_decide_eq_true hx3
 refine qF (nt hx3) ?_
 refine Aw (Bu 1 [1,3,4] ?_)
 refine Bb (Cn (λm s=>∃j,j<=i/\m=i-j/\(∀r,r<j->¬((d.sides.getD r V3.zero).x=(d.sides.getD i V3.zero).x/\(d.sides.getD r V3.zero).y=(d.sides.getD i V3.zero).y/\(d.sides.getD r V3.zero).z=(d.sides.getD i V3.zero).z))/\s=⟨[(1,.ptr 0 0),(3,.int (i:Int)),(4,.int (j:Int))],[(0,.box 28 [cE d.sides,.int d.across,.int d.down,.int d.ground])],1,84⟩) i ⟨0,Nat.zero_le _,rfl,(λq hq=>absurd hq (Nat.not_lt_zero q)),(by kernel_rfl)⟩ ?_)
 rintro _ _ ⟨j,hjn,rfl,hFj,rfl⟩
 refine Al (Ab ?_)
 refine Ae 2 ?_
 refine qb (decide ((j:Int)<(i:Int))) ?_
 refine As [1,3,4,30] ?_
 refine Ao (decide ((j:Int)<(i:Int))) (λhx4=>?_) (λhx4=>?_)
 have hx4d:=of_decide_eq_true hx4
 refine qT hx4 ?_
 refine Aw (Al ?_)
 refine Bb ?_
 refine Dk [(3,.elt 3 (λq=>AV.cell (Ew (d.sides.getD j V3.zero)) q),.none),(8,.elt 3 (λq=>AV.cell (Ew (d.sides.getD i V3.zero)) q),.none),(10,.bool (decide ((d.sides.getD j V3.zero).x=(d.sides.getD i V3.zero).x/\(d.sides.getD j V3.zero).y=(d.sides.getD i V3.zero).y/\(d.sides.getD j V3.zero).z=(d.sides.getD i V3.zero).z)),.none)] [1,3,4,43] 1 ⟨?_,?_,?_,trivial⟩ ?_
 exact Bn (Fb.wk (Bk 23 (.tmp 34) (.tmp 35) underlying23 3 d.sides.length j (λi0=>Ew (d.sides.getD i0 V3.zero)) (j:Int) sizeOf55))
 exact Bn (Fb.wk (Bk 23 (.tmp 39) (.tmp 40) underlying23 3 d.sides.length i (λi0=>Ew (d.sides.getD i0 V3.zero)) (i:Int) sizeOf55))
 exact Bn (Vr 55 55 (.tmp 37) (.tmp 42) (by kernel_rfl) _ _ (by kernel_rfl) (by kernel_rfl) (by kernel_rfl) (decide ((d.sides.getD j V3.zero).x=(d.sides.getD i V3.zero).x/\(d.sides.getD j V3.zero).y=(d.sides.getD i V3.zero).y/\(d.sides.getD j V3.zero).z=(d.sides.getD i V3.zero).z)) (Ww _ _ _ _ _ _))
 refine Ao (decide ((d.sides.getD j V3.zero).x=(d.sides.getD i V3.zero).x/\(d.sides.getD j V3.zero).y=(d.sides.getD i V3.zero).y/\(d.sides.getD j V3.zero).z=(d.sides.getD i V3.zero).z)) (λhx5=>?_) (λhx5=>?_)
 have hx5d:=of_decide_eq_true hx5
 refine qT hx5 ?_
 refine Bu 1 [2] ?_
 refine Be ?_
 exact⟨.inl rfl,(Bv results11 (Ak (x:= .bool false) (by kernel_rfl) (by kernel_rfl))).cast (congrArg AV.bool (Ce (by rintro⟨⟨g1,g2,g3,g4,g5,g6,g7,g8⟩,g9⟩;first|omega|(have g:=(g9 i (by omega)).2.1;omega)|(have g:=(g9 i (by omega)).2.2 j (by omega);omega)|(have g:=(g9 i (by omega)).1;unfold vOk at g;rw[hx2] at g;exact Bool.noConfusion g))).symm)⟩
 have hx5d:=of_decide_eq_false hx5
 refine qF hx5 ?_
 refine Aw (Bi ?_)
 refine Ae 1 ?_
 refine qw ((j:Int)+1) ((j+1:Nat):Int) ?_
 refine Ae 1 ?_
 refine Bx [1,3,4] ?_
 exact⟨_,(by omega:i-(j+1)<i-j),j+1,(by omega),rfl,(λr hr=>(Nat.lt_or_ge r j).elim (λg=>hFj r g) λg=>by have e:r=j:=(by omega);subst e;omega),(by kernel_rfl)⟩
 have hx4d:=of_decide_eq_false hx4
 refine qF hx4 ?_
 refine Co (Bi ?_)
 refine Ae 1 ?_
 refine qw ((i:Int)+1) ((i+1:Nat):Int) ?_
 refine Ae 1 ?_
 refine Bx [1,3] ?_
 exact⟨_,(by omega:d.sides.length-(i+1)<d.sides.length-i),i+1,(by omega),rfl,(λq hq=>(Nat.lt_or_ge q i).elim (λg=>hFi q g) λg=>by have e:q=i:=(by omega);subst e;exact⟨hx2,by omega,λj2 hj=>hFj j2 (by omega)⟩),(by kernel_rfl)⟩
 have hx3d:=of_decide_eq_false hx3
 refine qT (nf hx3) ?_
 refine Bu 1 [2] ?_
 refine Be ?_
 exact⟨.inl rfl,(Bv results11 (Ak (x:= .bool false) (by kernel_rfl) (by kernel_rfl))).cast (congrArg AV.bool (Ce (by rintro⟨⟨g1,g2,g3,g4,g5,g6,g7,g8⟩,g9⟩;first|omega|(have g:=(g9 i (by omega)).2.1;omega)|(have g:=(g9 i (by omega)).2.2 j (by omega);omega)|(have g:=(g9 i (by omega)).1;unfold vOk at g;rw[hx2] at g;exact Bool.noConfusion g))).symm)⟩
 refine Bg 19 _ true (nf hx2) ?_
 refine Ae 8 ?_
 refine As [1,3,27] ?_
 refine Ca (Bu 1 [2] ?_)
 refine Be ?_
 exact⟨.inl rfl,(Bv results11 (Ak (x:= .bool false) (by kernel_rfl) (by kernel_rfl))).cast (congrArg AV.bool (Ce (by rintro⟨⟨g1,g2,g3,g4,g5,g6,g7,g8⟩,g9⟩;first|omega|(have g:=(g9 i (by omega)).2.1;omega)|(have g:=(g9 i (by omega)).2.2 j (by omega);omega)|(have g:=(g9 i (by omega)).1;unfold vOk at g;rw[hx2] at g;exact Bool.noConfusion g))).symm)⟩
 have hx1d:=of_decide_eq_false hx1
 refine qF hx1 ?_
 refine Co (Ab ?_)
 refine Ae 2 ?_
 refine Bl (.int (d.sides.length:Int)) (Ih (.tmp 45) 23 #[23] underlying23 3 d.sides.length (λi0=>Ew (d.sides.getD i0 V3.zero))) ?_
 refine qb (decide ((1:Int)<=(d.sides.length:Int))) ?_
 refine Ae 1 ?_
 refine Ao (decide ((1:Int)<=(d.sides.length:Int))) (λhx6=>?_) (λhx6=>?_)
 have hx6d:=of_decide_eq_true hx6
 refine Bg 48 _ true hx6 ?_
 refine Ae 2 ?_
 refine Ei (.int (d.sides.length:Int)) .none (Ih (.tmp 50) 23 #[23] underlying23 3 d.sides.length (λi0=>Ew (d.sides.getD i0 V3.zero))) ?_
 refine Ga (decide ((d.sides.length:Int)<=16)) ?_
 refine Ae 2 ?_
 refine Ao (decide ((d.sides.length:Int)<=16)) (λhx7=>?_) (λhx7=>?_)
 have hx7d:=of_decide_eq_true hx7
 refine Bg 54 _ true hx7 ?_
 refine Ae 2 ?_
 refine Ga (decide ((1:Int)<=d.across)) ?_
 refine Ae 2 ?_
 refine Ao (decide ((1:Int)<=d.across)) (λhx8=>?_) (λhx8=>?_)
 have hx8d:=of_decide_eq_true hx8
 refine Bg 59 _ true hx8 ?_
 refine Ae 2 ?_
 refine Ga (decide (d.across<=3600000)) ?_
 refine Ae 2 ?_
 refine Ao (decide (d.across<=3600000)) (λhx9=>?_) (λhx9=>?_)
 have hx9d:=of_decide_eq_true hx9
 refine Bg 64 _ true hx9 ?_
 refine Ae 2 ?_
 refine Ga (decide ((1:Int)<=d.down)) ?_
 refine Ae 2 ?_
 refine Ao (decide ((1:Int)<=d.down)) (λhx10=>?_) (λhx10=>?_)
 have hx10d:=of_decide_eq_true hx10
 refine Bg 69 _ true hx10 ?_
 refine Ae 2 ?_
 refine Ga (decide (d.down<=3600000)) ?_
 refine Ae 2 ?_
 refine Ao (decide (d.down<=3600000)) (λhx11=>?_) (λhx11=>?_)
 have hx11d:=of_decide_eq_true hx11
 refine Bg 74 _ true hx11 ?_
 refine Ae 2 ?_
 refine Ga (decide ((-1048576:Int)<=d.ground)) ?_
 refine Ae 2 ?_
 refine Ao (decide ((-1048576:Int)<=d.ground)) (λhx12=>?_) (λhx12=>?_)
 have hx12d:=of_decide_eq_true hx12
 refine Bg 79 _ true hx12 ?_
 refine Ae 2 ?_
 refine Ga (decide (d.ground<=1048576)) ?_
 refine Ae 2 ?_
 refine As [2] ?_
 refine Be ?_
 exact⟨.inl rfl,(Bv results11 (Ak (x:= .bool (decide (d.ground<=1048576))) (by kernel_rfl) (by kernel_rfl))).cast (congrArg AV.bool (if hz:d.ground<=1048576 then (decide_eq_true hz).trans (Dq (by refine⟨⟨by omega,by omega,by omega,by omega,by omega,by omega,by omega,by omega⟩,λq hq=>hFi q (by omega)⟩)).symm else (decide_eq_false hz).trans (Ce (by rintro⟨⟨g1,g2,g3,g4,g5,g6,g7,g8⟩,g9⟩;omega)).symm))⟩
 have hx12d:=of_decide_eq_false hx12
 refine Bg 79 _ false hx12 ?_
 refine Ae 5 ?_
 refine As [2] ?_
 refine Be ?_
 exact⟨.inl rfl,(Bv results11 (Ak (x:= .bool false) (by kernel_rfl) (by kernel_rfl))).cast (congrArg AV.bool (Ce (by rintro⟨⟨g1,g2,g3,g4,g5,g6,g7,g8⟩,g9⟩;first|omega|(have g:=(g9 i (by omega)).2.1;omega)|(have g:=(g9 i (by omega)).2.2 j (by omega);omega))).symm)⟩
 have hx11d:=of_decide_eq_false hx11
 refine Bg 74 _ false hx11 ?_
 refine Ae 10 ?_
 refine As [2] ?_
 refine Be ?_
 exact⟨.inl rfl,(Bv results11 (Ak (x:= .bool false) (by kernel_rfl) (by kernel_rfl))).cast (congrArg AV.bool (Ce (by rintro⟨⟨g1,g2,g3,g4,g5,g6,g7,g8⟩,g9⟩;first|omega|(have g:=(g9 i (by omega)).2.1;omega)|(have g:=(g9 i (by omega)).2.2 j (by omega);omega))).symm)⟩
 have hx10d:=of_decide_eq_false hx10
 refine Bg 69 _ false hx10 ?_
 refine Ae 15 ?_
 refine As [2] ?_
 refine Be ?_
 exact⟨.inl rfl,(Bv results11 (Ak (x:= .bool false) (by kernel_rfl) (by kernel_rfl))).cast (congrArg AV.bool (Ce (by rintro⟨⟨g1,g2,g3,g4,g5,g6,g7,g8⟩,g9⟩;first|omega|(have g:=(g9 i (by omega)).2.1;omega)|(have g:=(g9 i (by omega)).2.2 j (by omega);omega))).symm)⟩
 have hx9d:=of_decide_eq_false hx9
 refine Bg 64 _ false hx9 ?_
 refine Ae 20 ?_
 refine As [2] ?_
 refine Be ?_
 exact⟨.inl rfl,(Bv results11 (Ak (x:= .bool false) (by kernel_rfl) (by kernel_rfl))).cast (congrArg AV.bool (Ce (by rintro⟨⟨g1,g2,g3,g4,g5,g6,g7,g8⟩,g9⟩;first|omega|(have g:=(g9 i (by omega)).2.1;omega)|(have g:=(g9 i (by omega)).2.2 j (by omega);omega))).symm)⟩
 have hx8d:=of_decide_eq_false hx8
 refine Bg 59 _ false hx8 ?_
 refine Ae 25 ?_
 refine As [2] ?_
 refine Be ?_
 exact⟨.inl rfl,(Bv results11 (Ak (x:= .bool false) (by kernel_rfl) (by kernel_rfl))).cast (congrArg AV.bool (Ce (by rintro⟨⟨g1,g2,g3,g4,g5,g6,g7,g8⟩,g9⟩;first|omega|(have g:=(g9 i (by omega)).2.1;omega)|(have g:=(g9 i (by omega)).2.2 j (by omega);omega))).symm)⟩
 have hx7d:=of_decide_eq_false hx7
 refine Bg 54 _ false hx7 ?_
 refine Ae 30 ?_
 refine As [2] ?_
 refine Be ?_
 exact⟨.inl rfl,(Bv results11 (Ak (x:= .bool false) (by kernel_rfl) (by kernel_rfl))).cast (congrArg AV.bool (Ce (by rintro⟨⟨g1,g2,g3,g4,g5,g6,g7,g8⟩,g9⟩;first|omega|(have g:=(g9 i (by omega)).2.1;omega)|(have g:=(g9 i (by omega)).2.2 j (by omega);omega))).symm)⟩
 have hx6d:=of_decide_eq_false hx6
 refine Bg 48 _ false hx6 ?_
 refine Ae 36 ?_
 refine As [2] ?_
 refine Be ?_
 exact⟨.inl rfl,(Bv results11 (Ak (x:= .bool false) (by kernel_rfl) (by kernel_rfl))).cast (congrArg AV.bool (Ce (by rintro⟨⟨g1,g2,g3,g4,g5,g6,g7,g8⟩,g9⟩;first|omega|(have g:=(g9 i (by omega)).2.1;omega)|(have g:=(g9 i (by omega)).2.2 j (by omega);omega))).symm)⟩
theorem Acf (p:Pr) (hp:Mx p) (ho:fM p) (k:Nat) (hk:k<p.acts.length):AF Tryz.prog 55 [Em p,.int (k:Int)] (.int (Et p.acts (k+1))):=by
 have hac:=ho.acts
 refine Dl ⟨[(0,Em p),(1,.int (k:Int))],[],0,22⟩ func55 rfl 22 ntmps55 (by kernel_rfl) (by kernel_rfl) λB D0 hA0=>?_
 refine Bu 2 [1,2] ?_
 refine Bu 1 [1,2,5] ?_
 refine Al (Ab ?_)
 refine Ae 1 ?_
 refine qw ((k:Int)+1) ((k+1:Nat):Int) ?_
 refine Ae 1 ?_
 refine As [2,5,8,9] ?_
 refine Bb (Cn (λm s=>∃i,i<=k+1/\m=k+1-i/\True/\s=⟨[(2,.ptr 0 0),(5,.int (Et p.acts i)),(8,.int ((k+1:Nat):Int)),(9,.int (i:Int))],[(0,.box 26 [Po p.names,Wg p.homes,Qi p.acts])],1,22⟩) (k+1) ⟨0,Nat.zero_le _,rfl,trivial,(by kernel_rfl)⟩ ?_)
 rintro _ _ ⟨i,hin,rfl,hFi,rfl⟩
 refine Ab (qb (decide ((i:Int)<((k+1:Nat):Int))) ?_)
 refine As [2,5,8,9,10] ?_
 refine Al ?_
 refine Ao (decide ((i:Int)<((k+1:Nat):Int))) (λhx1=>?_) (λhx1=>?_)
 have hx1d:=of_decide_eq_true hx1
 refine qT hx1 ?_
 refine Aw (Al ?_)
 refine Bb (Bu 2 [2,5,6,8,9] ?_)
 have he2:=ho.ends i (by omega)
 have hl:=getD_in hp.lens i
 refine Bi (Ae 4 ?_)
 refine Bl (.elt 3 (λq=>AV.cell (Fq (p.acts.getD i Ac.none)) q)) (Bk 24 (.tmp 14) (.tmp 15) underlying24 3 p.acts.length i (λi0=>Fq (p.acts.getD i0 Ac.none)) (i:Int) sizeOf60) ?_
 refine Ae 2 ?_
 refine Bl (.int (Et p.acts (i+1))) (Dx (v:= .int .i64 (IntKind.wrap .i64 (Et p.acts i+(p.acts.getD i Ac.none).len))) (v':= .int .i64 (Et p.acts (i+1))) (congrArg (Value.int .i64) ((IntWalk.i64_in _ (by have he3:=ho.ends (i+1) (by omega);rw[Et] at he3;omega)).trans rfl)) _) ?_
 refine Ae 1 ?_
 refine Bx [2,5,8,9] ?_
 refine Bi (qw ((i:Int)+1) ((i+1:Nat):Int) ?_)
 refine Ae 1 ?_
 refine Bx [2,5,8,9] ?_
 exact⟨_,(by omega:k+1-(i+1)<k+1-i),i+1,(by omega),rfl,trivial,(by kernel_rfl)⟩
 have hx1d:=of_decide_eq_false hx1
 refine qF hx1 ?_
 refine Co (Bu 2 [4] ?_)
 refine Be ?_
 exact⟨.inl rfl,(Bv results55 (Ak (x:= .int (Et p.acts i)) (by kernel_rfl) (by kernel_rfl))).cast (congrArg (λq=>AV.int (Et p.acts q)) (show i=k+1 by omega))⟩
theorem Up (p:Pr) (hp:Mx p) (ho:fM p) (k:Nat) (hk:k<p.acts.length):AF Tryz.prog 19 [Em p,.int (k:Int)] (.int (Et p.acts (k+1))):=by
 have hac:=ho.acts
 refine Dl ⟨[(0,Em p),(1,.int (k:Int))],[],0,21⟩ func19 rfl 21 ntmps19 (by kernel_rfl) (by kernel_rfl) λB D0 hA0=>?_
 refine Bu 2 [1,2] ?_
 refine Bu 1 [1,2,5] ?_
 refine Al (Bu 1 [1,2,5,6] ?_)
 refine Bb (Cn (λm s=>∃i,i<=k+1/\m=k+1-i/\True/\s=⟨[(1,.int (k:Int)),(2,.ptr 0 0),(5,.int (Et p.acts i)),(6,.int (i:Int))],[(0,.box 26 [Po p.names,Wg p.homes,Qi p.acts])],1,21⟩) (k+1) ⟨0,Nat.zero_le _,rfl,trivial,(by kernel_rfl)⟩ ?_)
 rintro _ _ ⟨i,hin,rfl,hFi,rfl⟩
 have he:=ho.ends i
 refine Al (Ab ?_)
 refine Ae 2 ?_
 refine qb (decide ((i:Int)<=(k:Int))) ?_
 refine As [1,2,5,6,9] ?_
 refine Ao (decide ((i:Int)<=(k:Int))) (λhx1=>?_) (λhx1=>?_)
 have hx1d:=of_decide_eq_true hx1
 refine qT hx1 ?_
 refine Aw (Al ?_)
 refine Bb ?_
 have he2:=ho.ends i (by omega)
 have hl:=getD_in hp.lens i
 refine Bi (Ae 4 ?_)
 refine Bl (.elt 3 (λq=>AV.cell (Fq (p.acts.getD i Ac.none)) q)) (Bk 24 (.tmp 14) (.tmp 15) underlying24 3 p.acts.length i (λi0=>Fq (p.acts.getD i0 Ac.none)) (i:Int) sizeOf60) ?_
 refine Ae 2 ?_
 refine Bl (.int (Et p.acts (i+1))) (Dx (v:= .int .i64 (IntKind.wrap .i64 (Et p.acts i+(p.acts.getD i Ac.none).len))) (v':= .int .i64 (Et p.acts (i+1))) (congrArg (Value.int .i64) ((IntWalk.i64_in _ (by have he3:=ho.ends (i+1) (by omega);rw[Et] at he3;omega)).trans rfl)) _) ?_
 refine Ae 1 ?_
 refine Bx [1,2,5,6] ?_
 refine Bi (Ae 1 ?_)
 refine qw ((i:Int)+1) ((i+1:Nat):Int) ?_
 refine Ae 1 ?_
 refine Bx [1,2,5,6] ?_
 exact⟨_,(by omega:k+1-(i+1)<k+1-i),i+1,(by omega),rfl,trivial,(by kernel_rfl)⟩
 have hx1d:=of_decide_eq_false hx1
 refine qF hx1 ?_
 refine Co (Bu 2 [4] ?_)
 refine Be ?_
 exact⟨.inl rfl,(Bv results19 (Ak (x:= .int (Et p.acts i)) (by kernel_rfl) (by kernel_rfl))).cast (congrArg (λq=>AV.int (Et p.acts q)) (show i=k+1 by omega))⟩
def Qu (p:Pr) (c:Cs):Prop:=Da p=true/\0<=c.craft/\c.craft<(p.names.length:Int)/\0<=c.act/\c.act<(p.acts.length:Int)
def Yp (p:Pr) (c:Cs):Int:=Et p.acts (c.act.toNat+1)
def nM (p:Pr) (c:Cs):V3:=((p.acts.getD c.act.toNat Ac.none).moves.getD c.craft.toNat Mv.none).to
structure Acg (c:Cs):Prop where
 craft:Cj c.craft
 act:Cj c.act
theorem Lx (p:Pr) (c:Cs) (hp:Mx p) (hc:Acg c):AF Tryz.prog 32 [Em p,dN c] (.bool (bP (Qu p c))):=by
 have hac:=hp.acts
 refine Dl ⟨[(0,Em p),(1,dN c)],[],0,33⟩ func32 rfl 33 ntmps32 (by kernel_rfl) (by kernel_rfl) λB D0 hA0=>?_
 refine Bu 3 [2,3] ?_
 refine Ab (Ae 1 ?_)
 refine Fg (Dp p hp) ?_
 refine Ae 1 ?_
 refine Ao (Da p) (λhx1=>?_) (λhx1=>?_)
 refine Bg 7 _ true hx1 ?_
 refine Ae 2 ?_
 refine Ga (decide ((0:Int)<=c.craft)) ?_
 refine Ae 2 ?_
 refine Ao (decide ((0:Int)<=c.craft)) (λhx2=>?_) (λhx2=>?_)
 have hx2d:=of_decide_eq_true hx2
 refine Bg 12 _ true hx2 ?_
 refine Ae 4 ?_
 refine Ei (.int (p.names.length:Int)) .none (Dg (.tmp 16) 22 #[22] underlying22 p.names.length (.inl ⟨1,(λi0=> .lit (.string (p.names.getD i0 ByteArray.empty))),by kernel_rfl⟩)) ?_
 refine Ga (decide (c.craft<(p.names.length:Int))) ?_
 refine Ae 2 ?_
 refine Ao (decide (c.craft<(p.names.length:Int))) (λhx3=>?_) (λhx3=>?_)
 have hx3d:=of_decide_eq_true hx3
 refine Bg 20 _ true hx3 ?_
 refine Ae 2 ?_
 refine Ga (decide ((0:Int)<=c.act)) ?_
 refine Ae 2 ?_
 refine Ao (decide ((0:Int)<=c.act)) (λhx4=>?_) (λhx4=>?_)
 have hx4d:=of_decide_eq_true hx4
 refine Bg 25 _ true hx4 ?_
 refine Ae 4 ?_
 refine Ei (.int (p.acts.length:Int)) .none (Dg (.tmp 29) 24 #[24] underlying24 p.acts.length (.inl ⟨3,(λi0=>Fq (p.acts.getD i0 Ac.none)),by kernel_rfl⟩)) ?_
 refine Ga (decide (c.act<(p.acts.length:Int))) ?_
 refine Ae 2 ?_
 refine As [4] ?_
 refine Be ?_
 exact⟨.inl rfl,(Bv results32 (Ak (x:= .bool (decide (c.act<(p.acts.length:Int)))) (by kernel_rfl) (by kernel_rfl))).cast (congrArg AV.bool (if hz:c.act<(p.acts.length:Int) then (decide_eq_true hz).trans (Dq ⟨by assumption,by omega,by omega,by omega,hz⟩).symm else (decide_eq_false hz).trans (Ce (by rintro⟨g1,g2,g3,g4,g5⟩;omega)).symm))⟩
 have hx4d:=of_decide_eq_false hx4
 refine Bg 25 _ false hx4 ?_
 refine Ae 8 ?_
 refine As [4] ?_
 refine Be ?_
 exact⟨.inl rfl,(Bv results32 (Ak (x:= .bool false) (by kernel_rfl) (by kernel_rfl))).cast (congrArg AV.bool (Ce (by rintro⟨g1,g2,g3,g4,g5⟩;first|omega|(simp_all;done))).symm)⟩
 have hx3d:=of_decide_eq_false hx3
 refine Bg 20 _ false hx3 ?_
 refine Ae 13 ?_
 refine As [4] ?_
 refine Be ?_
 exact⟨.inl rfl,(Bv results32 (Ak (x:= .bool false) (by kernel_rfl) (by kernel_rfl))).cast (congrArg AV.bool (Ce (by rintro⟨g1,g2,g3,g4,g5⟩;first|omega|(simp_all;done))).symm)⟩
 have hx2d:=of_decide_eq_false hx2
 refine Bg 12 _ false hx2 ?_
 refine Ae 21 ?_
 refine As [4] ?_
 refine Be ?_
 exact⟨.inl rfl,(Bv results32 (Ak (x:= .bool false) (by kernel_rfl) (by kernel_rfl))).cast (congrArg AV.bool (Ce (by rintro⟨g1,g2,g3,g4,g5⟩;first|omega|(simp_all;done))).symm)⟩
 refine Bg 7 _ false hx1 ?_
 refine Ae 26 ?_
 refine As [4] ?_
 refine Be ?_
 exact⟨.inl rfl,(Bv results32 (Ak (x:= .bool false) (by kernel_rfl) (by kernel_rfl))).cast (congrArg AV.bool (Ce (by rintro⟨g1,g2,g3,g4,g5⟩;first|omega|(simp_all;done))).symm)⟩
theorem Zh (p:Pr) (c:Cs) (hp:Mx p) (hc:Acg c) (h:Qu p c):AF Tryz.prog 33 [Em p,dN c] (.lit (.tuple #[.int .i64 (Yp p c),.int .i64 0])):=by
 have hv1:=h.2.1
 have hv2:=h.2.2.1
 have hv3:=h.2.2.2.1
 have hv4:=h.2.2.2.2
 have hmv:=(Eo h.1).mv c.act.toNat (by omega)
 refine Dl ⟨[(0,Em p),(1,dN c)],[],0,14⟩ func33 rfl 14 ntmps33 (by kernel_rfl) (by kernel_rfl) λB D0 hA0=>?_
 refine Bu 4 [2,3] ?_
 refine Al (Ab ?_)
 refine Ae 2 ?_
 refine Fg (Lx p c hp hc) ?_
 refine qb (!bP (Qu p c)) ?_
 refine As [2,3,9] ?_
 refine qF (b:=(!bP (Qu p c))) (by rw[(Dq h)];rfl) ?_
 refine Aw (Ab ?_)
 refine Ae 3 ?_
 refine Fg (by have:=Acf p hp (Eo h.1) c.act.toNat (by have:=h.2.2.2.2;omega);rwa [show (c.act.toNat:Int)=c.act by have:=h.2.2.2.1;omega] at this) ?_
 refine Ae 2 ?_
 refine As [4,5] ?_
 refine Be ?_
 exact⟨.inl rfl,(Cv results33 (Ak (x:= .int (Yp p c)) (by kernel_rfl) (by kernel_rfl)) (Ak (x:= .int 0) (by kernel_rfl) (by kernel_rfl))).cast (by kernel_rfl)⟩
theorem dH (p:Pr) (c:Cs) (hp:Mx p) (hc:Acg c) (h:Qu p c):AF Tryz.prog 34 [Em p,dN c] (.lit (.tuple #[.agg #[.int .i64 ((nM p c).x),.int .i64 ((nM p c).y),.int .i64 ((nM p c).z)],.int .i64 0])):=by
 have hv1:=h.2.1
 have hv2:=h.2.2.1
 have hv3:=h.2.2.2.1
 have hv4:=h.2.2.2.2
 have hmv:=(Eo h.1).mv c.act.toNat (by omega)
 refine Dl ⟨[(0,Em p),(1,dN c)],[],0,23⟩ func34 rfl 23 ntmps34 (by kernel_rfl) (by kernel_rfl) λB D0 hA0=>?_
 refine Bu 4 [2,3,4] ?_
 refine Al (Ab ?_)
 refine Ae 2 ?_
 refine Fg (Lx p c hp hc) ?_
 refine qb (!bP (Qu p c)) ?_
 refine As [2,3,4,9] ?_
 refine qF (b:=(!bP (Qu p c))) (by rw[(Dq h)];rfl) ?_
 refine Aw ?_
 refine Dk [(4,.elt 3 (λq=>AV.cell (Fq (p.acts.getD ((c.act).toNat) Ac.none)) q),.none),(9,.elt 6 (λq=>AV.cell (Wj ((p.acts.getD ((c.act).toNat) Ac.none).moves.getD ((c.craft).toNat) Mv.none)) q),.none)] [4,5] 3 ⟨?_,?_,trivial⟩ ?_
 exact Bn (Bk 24 (.tmp 12) (.tmp 14) underlying24 3 p.acts.length ((c.act).toNat) (λi0=>Fq (p.acts.getD i0 Ac.none)) c.act sizeOf60)
 exact Bn (Bk 58 (.tmp 17) (.tmp 19) underlying58 6 ((p.acts.getD ((c.act).toNat) Ac.none).moves.length) ((c.craft).toNat) (λi0=>Wj ((p.acts.getD ((c.act).toNat) Ac.none).moves.getD i0 Mv.none)) c.craft sizeOf57)
 refine Be ?_
 exact⟨.inl rfl,(Cv results34 (Gs (x:= .lit (.agg #[.int .i64 (((p.acts.getD ((c.act).toNat) Ac.none).moves.getD ((c.craft).toNat) Mv.none).to.x),.int .i64 (((p.acts.getD ((c.act).toNat) Ac.none).moves.getD ((c.craft).toNat) Mv.none).to.y),.int .i64 (((p.acts.getD ((c.act).toNat) Ac.none).moves.getD ((c.craft).toNat) Mv.none).to.z)])) 2 isAgg55 3 sizeOf55 0 [.int (((p.acts.getD ((c.act).toNat) Ac.none).moves.getD ((c.craft).toNat) Mv.none).to.x),.int (((p.acts.getD ((c.act).toNat) Ac.none).moves.getD ((c.craft).toNat) Mv.none).to.y),.int (((p.acts.getD ((c.act).toNat) Ac.none).moves.getD ((c.craft).toNat) Mv.none).to.z)] (by kernel_rfl) 55 (by kernel_rfl) (Nat.le_of_ble_eq_true (by kernel_rfl)) (by kernel_rfl) (by kernel_rfl)) (Ak (x:= .int 0) (by kernel_rfl) (by kernel_rfl))).cast (by kernel_rfl)⟩
noncomputable def aL (p:Pr) (d:De):Prop:=Da p=true/\Hj d
def Kt (p:Pr) (d:De):Int:=Et p.acts p.acts.length+d.across+d.down
theorem Si (p:Pr) (hp:Mx p) (h:Da p=true):AF Tryz.prog 26 [Em p] (.lit (.tuple #[.int .i64 (Et p.acts p.acts.length),.int .i64 0])):=by
 have ho:=Eo h
 have hac:=ho.acts
 refine Dl ⟨[(0,Em p)],[],0,23⟩ func26 rfl 23 ntmps26 (by kernel_rfl) (by kernel_rfl) λB D0 hA0=>?_
 refine Bu 3 [1] ?_
 refine Al (Ab ?_)
 refine Ae 1 ?_
 refine Fg (Dp p hp) ?_
 refine qb (!Da p) ?_
 refine As [1,9] ?_
 refine qF (b:=(!Da p)) (by rw[h];rfl) ?_
 refine Aw (Bu 1 [1,4] ?_)
 refine Al (Ab ?_)
 refine Ae 2 ?_
 refine Bl (.int (p.acts.length:Int)) (Dg (.tmp 11) 24 #[24] underlying24 p.acts.length (.inl ⟨3,(λi0=>Fq (p.acts.getD i0 Ac.none)),by kernel_rfl⟩)) ?_
 refine Ae 1 ?_
 refine As [4,11,12,13] ?_
 refine Bb (Cn (λm s=>∃i,i<=p.acts.length/\m=p.acts.length-i/\True/\s=⟨[(4,.int (Et p.acts i)),(11,Qi p.acts),(12,.int (p.acts.length:Int)),(13,.int (i:Int))],[(0,.box 26 [Po p.names,Wg p.homes,Qi p.acts])],1,23⟩) p.acts.length ⟨0,Nat.zero_le _,rfl,trivial,(by kernel_rfl)⟩ ?_)
 rintro _ _ ⟨i,hin,rfl,hFi,rfl⟩
 refine Ab (qb (decide ((i:Int)<(p.acts.length:Int))) ?_)
 refine As [4,11,12,13,14] ?_
 refine Al ?_
 refine Ao (decide ((i:Int)<(p.acts.length:Int))) (λhx1=>?_) (λhx1=>?_)
 have hx1d:=of_decide_eq_true hx1
 refine qT hx1 ?_
 refine Aw (Al ?_)
 refine Bb ?_
 have he2:=ho.ends i (by omega)
 have hl:=getD_in hp.lens i
 refine Ab (Bl (.elt 3 (λq=>AV.cell (Fq (p.acts.getD i Ac.none)) q)) (Bk 24 (.tmp 11) (.tmp 13) underlying24 3 p.acts.length i (λi0=>Fq (p.acts.getD i0 Ac.none)) (i:Int) sizeOf60) ?_)
 refine Ae 3 ?_
 refine As [4,6,11,12,13] ?_
 refine Bi (Ae 3 ?_)
 refine Bl (.int (Et p.acts (i+1))) (Dx (v:= .int .i64 (IntKind.wrap .i64 (Et p.acts i+(p.acts.getD i Ac.none).len))) (v':= .int .i64 (Et p.acts (i+1))) (congrArg (Value.int .i64) ((IntWalk.i64_in _ (by have he3:=ho.ends (i+1) (by omega);rw[Et] at he3;omega)).trans rfl)) _) ?_
 refine Ae 1 ?_
 refine Bx [4,11,12,13] ?_
 refine Ee [4,11,12,13] ⟨[(4,.int (Et p.acts (i+1))),(11,Qi p.acts),(12,.int (p.acts.length:Int)),(13,.int (i:Int))],[(0,.box 26 [Po p.names,Wg p.homes,Qi p.acts]),(1,.box 60 [.lit (.string ((p.acts.getD i Ac.none).name)),.int ((p.acts.getD i Ac.none).len),Abp ((p.acts.getD i Ac.none).moves)])],2,23⟩ ?_
 refine Hg [(0,0)] 1 0 hA0 _ (Av (Av Cx)) ?_
 refine Bi (qw ((i:Int)+1) ((i+1:Nat):Int) ?_)
 refine Ae 1 ?_
 refine Bx [4,11,12,13] ?_
 exact⟨_,(by omega:p.acts.length-(i+1)<p.acts.length-i),i+1,(by omega),rfl,trivial,(by kernel_rfl)⟩
 have hx1d:=of_decide_eq_false hx1
 refine qF hx1 ?_
 refine Co (Bu 3 [2,3] ?_)
 refine Be ?_
 exact⟨.inl rfl,(Cv results26 (Ak (x:= .int (Et p.acts i)) (by kernel_rfl) (by kernel_rfl)) (Ak (x:= .int 0) (by kernel_rfl) (by kernel_rfl))).cast (congrArg (λq=>AV.lit (.tuple #[.int .i64 (Et p.acts q),.int .i64 0])) (show i=p.acts.length by omega))⟩
theorem Zi (p:Pr) (d:De) (hp:Mx p) (hd:Wp d) (h:¬aL p d):AF Tryz.prog 9 [Em p,Fy d] (.lit (.tuple #[.int .i64 0,.int .i64 2])):=by
 by_cases hv:Da p=true
 refine Dl ⟨[(0,Em p),(1,Fy d)],[],0,40⟩ func9 rfl 40 ntmps9 (by kernel_rfl) (by kernel_rfl) λB D0 hA0=>?_
 refine Bu 4 [2,3] ?_
 refine Al (Bb ?_)
 refine Al (Ab ?_)
 refine Ae 1 ?_
 refine Fg (Dp p hp) ?_
 refine qb (!Da p) ?_
 refine Ae 1 ?_
 refine As [2,3,8] ?_
 refine qF (b:=(!Da p)) (by rw[hv];rfl) ?_
 refine Bi (Ae 1 ?_)
 refine Fg (Js d hd) ?_
 refine qb (!bP (Hj d)) ?_
 refine Ae 1 ?_
 refine Bx [2,3,8] ?_
 refine qT (b:=(!bP (Hj d))) (by rw[(Ce (λg=>h ⟨hv,g⟩))];rfl) ?_
 refine Bu 2 [4,5] ?_
 refine Be ?_
 exact⟨.inl rfl,(Cv results9 (Ak (x:= .int 0) (by kernel_rfl) (by kernel_rfl)) (Ak (x:= .int 2) (by kernel_rfl) (by kernel_rfl))).cast (by kernel_rfl)⟩
 have hv2:Da p=false:=by simpa using hv
 refine Dl ⟨[(0,Em p),(1,Fy d)],[],0,40⟩ func9 rfl 40 ntmps9 (by kernel_rfl) (by kernel_rfl) λB D0 hA0=>?_
 refine Bu 4 [2,3] ?_
 refine Al (Bb ?_)
 refine Al (Ab ?_)
 refine Ae 1 ?_
 refine Fg (Dp p hp) ?_
 refine qb (!Da p) ?_
 refine Ae 1 ?_
 refine As [2,3,8] ?_
 refine qT (b:=(!Da p)) (by rw[hv2];rfl) ?_
 refine Aw (Ca ?_)
 refine Bu 2 [4,5] ?_
 refine Be ?_
 exact⟨.inl rfl,(Cv results9 (Ak (x:= .int 0) (by kernel_rfl) (by kernel_rfl)) (Ak (x:= .int 2) (by kernel_rfl) (by kernel_rfl))).cast (by kernel_rfl)⟩
theorem Qf (p:Pr) (d:De) (hp:Mx p) (hd:Wp d) (h:aL p d) (h0:p.acts.length=0):AF Tryz.prog 9 [Em p,Fy d] (.lit (.tuple #[.int .i64 0,.int .i64 9])):=by
 refine Dl ⟨[(0,Em p),(1,Fy d)],[],0,40⟩ func9 rfl 40 ntmps9 (by kernel_rfl) (by kernel_rfl) λB D0 hA0=>?_
 refine Bu 4 [2,3] ?_
 refine Al (Bb ?_)
 refine Al (Ab ?_)
 refine Ae 1 ?_
 refine Fg (Dp p hp) ?_
 refine qb (!Da p) ?_
 refine Ae 1 ?_
 refine As [2,3,8] ?_
 refine qF (b:=(!Da p)) (by rw[h.1];rfl) ?_
 refine Bi (Ae 1 ?_)
 refine Fg (Js d hd) ?_
 refine qb (!bP (Hj d)) ?_
 refine Ae 1 ?_
 refine Bx [2,3,8] ?_
 refine qF (b:=(!bP (Hj d))) (by rw[(Dq h.2)];rfl) ?_
 refine Ab (Ae 2 ?_)
 refine Bl (.int (p.acts.length:Int)) (Dg (.tmp 17) 24 #[24] underlying24 p.acts.length (.inl ⟨3,(λi0=>Fq (p.acts.getD i0 Ac.none)),by kernel_rfl⟩)) ?_
 refine Bl (.bool true) (Dx (v:= .bool (decide ((p.acts.length:Int)=0))) (v':= .bool true) (congrArg Value.bool (decide_eq_true (by omega))) _) ?_
 refine Ae 1 ?_
 refine As [2,3,15] ?_
 refine Ca (Bu 2 [4,5] ?_)
 refine Be ?_
 exact⟨.inl rfl,(Cv results9 (Ak (x:= .int 0) (by kernel_rfl) (by kernel_rfl)) (Ak (x:= .int 9) (by kernel_rfl) (by kernel_rfl))).cast (by kernel_rfl)⟩
theorem Ny (p:Pr) (d:De) (hp:Mx p) (hd:Wp d) (h:aL p d) (h0:0<p.acts.length) (h1:3600000<Kt p d):AF Tryz.prog 9 [Em p,Fy d] (.lit (.tuple #[.int .i64 0,.int .i64 3])):=by
 have ho:=Eo h.1
 have hac:=ho.acts
 have hen:=ho.ends p.acts.length (Nat.le_refl _)
 have hd1:=h.2.1
 refine Dl ⟨[(0,Em p),(1,Fy d)],[],0,40⟩ func9 rfl 40 ntmps9 (by kernel_rfl) (by kernel_rfl) λB D0 hA0=>?_
 refine Bu 4 [2,3] ?_
 refine Al (Bb ?_)
 refine Al (Ab ?_)
 refine Ae 1 ?_
 refine Fg (Dp p hp) ?_
 refine qb (!Da p) ?_
 refine Ae 1 ?_
 refine As [2,3,8] ?_
 refine qF (b:=(!Da p)) (by rw[h.1];rfl) ?_
 refine Bi (Ae 1 ?_)
 refine Fg (Js d hd) ?_
 refine qb (!bP (Hj d)) ?_
 refine Ae 1 ?_
 refine Bx [2,3,8] ?_
 refine qF (b:=(!bP (Hj d))) (by rw[(Dq h.2)];rfl) ?_
 refine Ab (Ae 2 ?_)
 refine Bl (.int (p.acts.length:Int)) (Dg (.tmp 17) 24 #[24] underlying24 p.acts.length (.inl ⟨3,(λi0=>Fq (p.acts.getD i0 Ac.none)),by kernel_rfl⟩)) ?_
 refine Bl (.bool false) (Dx (v:= .bool (decide ((p.acts.length:Int)=0))) (v':= .bool false) (congrArg Value.bool (decide_eq_false (by omega))) _) ?_
 refine Ae 1 ?_
 refine As [2,3,15] ?_
 refine Bq (Aw ?_)
 refine Ab (Ae 1 ?_)
 refine Fg (Si p hp h.1) ?_
 refine Ae 1 ?_
 refine qi (Et p.acts p.acts.length) ?_
 refine qi 0 ?_
 refine Ae 2 ?_
 refine As [3,6] ?_
 refine Al (Ab ?_)
 refine Ae 3 ?_
 refine qv (Et p.acts p.acts.length+d.across) ?_
 refine Ae 2 ?_
 refine qv (Et p.acts p.acts.length+d.across+d.down) ?_
 refine Bl (.bool true) (Dx (v:= .bool (decide ((3600000:Int)<Et p.acts p.acts.length+d.across+d.down))) (v':= .bool true) (congrArg Value.bool (decide_eq_true (by unfold Kt at h1;omega))) _) ?_
 refine As [3,6,32] ?_
 refine Ca (Bu 2 [4,5] ?_)
 refine Be ?_
 exact⟨.inl rfl,(Cv results9 (Ak (x:= .int 0) (by kernel_rfl) (by kernel_rfl)) (Ak (x:= .int 3) (by kernel_rfl) (by kernel_rfl))).cast (by kernel_rfl)⟩
theorem Ij (p:Pr) (d:De) (hp:Mx p) (hd:Wp d) (h:aL p d) (h0:0<p.acts.length) (h1:Kt p d<=3600000):AF Tryz.prog 9 [Em p,Fy d] (.lit (.tuple #[.int .i64 (Kt p d),.int .i64 0])):=by
 have ho:=Eo h.1
 have hac:=ho.acts
 have hen:=ho.ends p.acts.length (Nat.le_refl _)
 have hd1:=h.2.1
 refine Dl ⟨[(0,Em p),(1,Fy d)],[],0,40⟩ func9 rfl 40 ntmps9 (by kernel_rfl) (by kernel_rfl) λB D0 hA0=>?_
 refine Bu 4 [2,3] ?_
 refine Al (Bb ?_)
 refine Al (Ab ?_)
 refine Ae 1 ?_
 refine Fg (Dp p hp) ?_
 refine qb (!Da p) ?_
 refine Ae 1 ?_
 refine As [2,3,8] ?_
 refine qF (b:=(!Da p)) (by rw[h.1];rfl) ?_
 refine Bi (Ae 1 ?_)
 refine Fg (Js d hd) ?_
 refine qb (!bP (Hj d)) ?_
 refine Ae 1 ?_
 refine Bx [2,3,8] ?_
 refine qF (b:=(!bP (Hj d))) (by rw[(Dq h.2)];rfl) ?_
 refine Ab (Ae 2 ?_)
 refine Bl (.int (p.acts.length:Int)) (Dg (.tmp 17) 24 #[24] underlying24 p.acts.length (.inl ⟨3,(λi0=>Fq (p.acts.getD i0 Ac.none)),by kernel_rfl⟩)) ?_
 refine Bl (.bool false) (Dx (v:= .bool (decide ((p.acts.length:Int)=0))) (v':= .bool false) (congrArg Value.bool (decide_eq_false (by omega))) _) ?_
 refine Ae 1 ?_
 refine As [2,3,15] ?_
 refine Bq (Aw ?_)
 refine Ab (Ae 1 ?_)
 refine Fg (Si p hp h.1) ?_
 refine Ae 1 ?_
 refine qi (Et p.acts p.acts.length) ?_
 refine qi 0 ?_
 refine Ae 2 ?_
 refine As [3,6] ?_
 refine Al (Ab ?_)
 refine Ae 3 ?_
 refine qv (Et p.acts p.acts.length+d.across) ?_
 refine Ae 2 ?_
 refine qv (Et p.acts p.acts.length+d.across+d.down) ?_
 refine Bl (.bool false) (Dx (v:= .bool (decide ((3600000:Int)<Et p.acts p.acts.length+d.across+d.down))) (v':= .bool false) (congrArg Value.bool (decide_eq_false (by unfold Kt at h1;omega))) _) ?_
 refine As [3,6,32] ?_
 refine Bq (Aw ?_)
 refine Ab (Ae 3 ?_)
 refine qv (Et p.acts p.acts.length+d.across) ?_
 refine Ae 2 ?_
 refine qv (Et p.acts p.acts.length+d.across+d.down) ?_
 refine Ae 2 ?_
 refine As [4,5] ?_
 refine Be ?_
 exact⟨.inl rfl,(Cv results9 (Ak (x:= .int (Et p.acts p.acts.length+d.across+d.down)) (by kernel_rfl) (by kernel_rfl)) (Ak (x:= .int 0) (by kernel_rfl) (by kernel_rfl))).cast (by kernel_rfl)⟩
theorem Ik (p:Pr) (d:De) (hp:Mx p) (hd:Wp d) (h:aL p d) (h0:0<p.acts.length):AF Tryz.prog 13 [Em p,Fy d] (.int (Kt p d)):=by
 have ho:=Eo h.1
 have hac:=ho.acts
 have hen:=ho.ends p.acts.length (Nat.le_refl _)
 have hd1:=h.2.1
 refine Dl ⟨[(0,Em p),(1,Fy d)],[],0,17⟩ func13 rfl 17 ntmps13 (by kernel_rfl) (by kernel_rfl) λB D0 hA0=>?_
 refine Bu 3 [2,3] ?_
 refine Dk [(3,.int (p.acts.length:Int),.none),(4,.int ((p.acts.length-1:Nat):Int),.none),(5,.int (Et p.acts p.acts.length),.none),(8,.int (Et p.acts p.acts.length+d.across),.none),(11,.int (Et p.acts p.acts.length+d.across+d.down),.none)] [4] 2 ⟨?_,?_,?_,?_,?_,trivial⟩ ?_
 exact Bn (Dg (.tmp 7) 24 #[24] underlying24 p.acts.length (.inl ⟨3,(λi0=>Fq (p.acts.getD i0 Ac.none)),by kernel_rfl⟩))
 exact Yk ((p.acts.length:Int)-1)
 exact Oi (by have:=Up p hp ho (p.acts.length-1) (by omega);rwa [show p.acts.length-1+1=p.acts.length by omega] at this)
 exact Yk (Et p.acts p.acts.length+d.across)
 exact Yk (Et p.acts p.acts.length+d.across+d.down)
 refine Be ?_
 exact⟨.inl rfl,(Bv results13 (Ak (x:= .int (Et p.acts p.acts.length+d.across+d.down)) (by kernel_rfl) (by kernel_rfl))).cast (by kernel_rfl)⟩
theorem Ac5 {s:Sg} {a d:Int} (ho:s.o≠0) (hd:d≠0):oR s a d≠0:=by
 have h0:(Un s d).natAbs≠0:=by
  unfold Un
  rw[Int.natAbs_mul,Int.natAbs_pow]
  have h1:0<s.o.natAbs:=by omega
  have h2:0<d.natAbs^5:=Nat.pow_pos (by omega)
  exact Nat.ne_of_gt (Nat.mul_pos h1 h2)
 have g:∀x y:Int,x.natAbs≠0->(Nat.gcd x.natAbs y.natAbs:Int).natAbs≠0:=λx y hx=>by
  rw[Int.natAbs_natCast]
  exact Nat.ne_of_gt (Nat.gcd_pos_of_pos_left _ (by omega))
 have h:=g _ (plZ s a d) (g _ (rU s a d) (g _ (cU s a d) h0))
 unfold oR
 omega
theorem Tv (s:Sg) (a d:Int) (hs:Nz s) (ho:Gm s) (ha:Cj a) (hd:Cj d) (h0:d≠0):AF Tryz.prog 65 [Bs s,.int a,.int d] (iJ (Cc s a d)):=
 wT s a d hs ho.2.1.2.1 ho.2.2.1.2.1 ho.2.2.2.1.2.1 ha hd (Ac5 (by have:=ho.1.2.2.2.1;omega) h0)
def Jg (s u:Sg):Prop:=s.t=u.f/\Cc s 1 1=Cc u 0 1
instance (s u:Sg):Decidable (Jg s u):=by unfold Jg;infer_instance
def Dz (l:List Sg):Prop:=(∀i,i<l.length->Gm (l.getD i Sg.none)/\(0<i->Jg (l.getD (i-1) Sg.none) (l.getD i Sg.none)))/\1<=l.length/\l.length<=256
instance (l:List Sg):Decidable (Dz l):=by unfold Dz;infer_instance
def Cm (l:List Sg):Prop:=l.length<=1000000/\∀i,Nz (l.getD i Sg.none)
theorem Gw:Cj 0:=⟨by decide,by decide⟩
theorem Rk:Cj 1:=⟨by decide,by decide⟩
theorem jL (s u:Sg) (hs:Nz s) (hu:Nz u) (ho:Gm s) (hp:Gm u):AF Tryz.prog 61 [Bs s,Bs u] (.bool (bP (Jg s u))):=by
 refine Dl ⟨[(0,Bs s),(1,Bs u)],[],0,17⟩ func61 rfl 17 ntmps61 (by kernel_rfl) (by kernel_rfl) λB D0 hA0=>?_
 refine Bu 3 [2,3] ?_
 refine Ao (decide (s.t=u.f)) (λhx1=>?_) (λhx1=>?_)
 have hx1d:=of_decide_eq_true hx1
 refine Dk [(4,.bool true,.none),(7,.lit (.agg #[.bool (decide ((Cc s 1 1).x<0)),.string (Cw ((Cc s 1 1).x).natAbs),.bool (decide ((Cc s 1 1).y<0)),.string (Cw ((Cc s 1 1).y).natAbs),.bool (decide ((Cc s 1 1).z<0)),.string (Cw ((Cc s 1 1).z).natAbs),.bool (decide ((Cc s 1 1).o<0)),.string (Cw ((Cc s 1 1).o).natAbs)]),.none),(9,.lit (.agg #[.bool (decide ((Cc u 0 1).x<0)),.string (Cw ((Cc u 0 1).x).natAbs),.bool (decide ((Cc u 0 1).y<0)),.string (Cw ((Cc u 0 1).y).natAbs),.bool (decide ((Cc u 0 1).z<0)),.string (Cw ((Cc u 0 1).z).natAbs),.bool (decide ((Cc u 0 1).o<0)),.string (Cw ((Cc u 0 1).o).natAbs)]),.none),(10,.bool (decide (Cc s 1 1=Cc u 0 1)),.none)] [4] 2 ⟨?_,?_,?_,?_,trivial⟩ ?_
 exact Fb.cast (Dx (v:= .bool (decide (s.t=u.f))) (v':= .bool (decide (s.t=u.f))) rfl _) (congrArg AV.bool hx1) (by kernel_rfl)
 exact Oi (Tv s 1 1 hs ho Rk Rk (by decide))
 exact Oi (Tv u 0 1 hu hp Gw Rk (by decide))
 exact Bn (Vr 98 98 (.tmp 12) (.tmp 14) (by kernel_rfl) _ _ (by kernel_rfl) (by kernel_rfl) (by kernel_rfl) (decide (Cc s 1 1=Cc u 0 1)) (Aba (Cc s 1 1) (Cc u 0 1)))
 refine Be ?_
 exact⟨.inl rfl,(Bv results61 (Ak (x:= .bool (decide (Cc s 1 1=Cc u 0 1))) (by kernel_rfl) (by kernel_rfl))).cast (congrArg AV.bool (if hz:Cc s 1 1=Cc u 0 1 then (decide_eq_true hz).trans (Dq ⟨by assumption,hz⟩).symm else (decide_eq_false hz).trans (Ce (λg=>hz g.2)).symm))⟩
 have hx1d:=of_decide_eq_false hx1
 refine Dk [(4,.bool false,.none)] [4] 2 ⟨?_,trivial⟩ ?_
 exact Fb.cast (Dx (v:= .bool (decide (s.t=u.f))) (v':= .bool (decide (s.t=u.f))) rfl _) (congrArg AV.bool hx1) (by kernel_rfl)
 refine Be ?_
 exact⟨.inl rfl,(Bv results61 (Ak (x:= .bool false) (by kernel_rfl) (by kernel_rfl))).cast (congrArg AV.bool (Ce (λg=>absurd g.1 (by assumption))).symm)⟩
theorem Oz (l:List Sg) (hl:Cm l):AF Tryz.prog 57 [Bj l] (.bool (bP (Dz l))):=by
 have hln:=hl.1
 refine Dl ⟨[(0,Bj l)],[],0,38⟩ func57 rfl 38 ntmps57 (by kernel_rfl) (by kernel_rfl) λB D0 hA0=>?_
 refine Bu 1 [0] ?_
 refine Al (Ab ?_)
 refine Ae 1 ?_
 refine Bl (.int ((l).length:Int)) (Dg (.tmp 5) 41 #[41] underlying41 ((l).length) (.inl ⟨6,(λi0=>Bs ((l).getD i0 Sg.none)),by kernel_rfl⟩)) ?_
 refine Ae 1 ?_
 refine As [0,5,6,7] ?_
 refine Bb (Cn (λm s=>∃i,i<=l.length/\m=l.length-i/\(∀q,q<i->Gm (l.getD q Sg.none)/\(0<q->Jg (l.getD (q-1) Sg.none) (l.getD q Sg.none)))/\s=⟨[(0,Bj l),(5,Bj l),(6,.int ((l).length:Int)),(7,.int (i:Int))],[],0,38⟩) l.length ⟨0,Nat.zero_le _,rfl,(λq hq=>absurd hq (Nat.not_lt_zero q)),(by kernel_rfl)⟩ ?_)
 rintro _ _ ⟨i,hin,rfl,hFi,rfl⟩
 refine Ab (qb (decide ((i:Int)<((l).length:Int))) ?_)
 refine As [0,5,6,7,8] ?_
 refine Al ?_
 refine Ao (decide ((i:Int)<((l).length:Int))) (λhx1=>?_) (λhx1=>?_)
 have hx1d:=of_decide_eq_true hx1
 refine qT hx1 ?_
 refine Aw (Al ?_)
 refine Bb (Ab ?_)
 refine Ae 1 ?_
 refine Bl (.elt 6 (λq=>AV.cell (Bs ((l).getD i Sg.none)) q)) (Bk 41 (.tmp 5) (.tmp 7) underlying41 6 ((l).length) i (λi0=>Bs ((l).getD i0 Sg.none)) (i:Int) sizeOf67) ?_
 refine Ae 4 ?_
 refine As [0,3,4,5,6,7] ?_
 refine Ao (decide (Gm (l.getD i Sg.none))) (λhx2=>?_) (λhx2=>?_)
 have hx2d:=of_decide_eq_true hx2
 refine Ao (decide ((0:Int)<(i:Int))) (λhx3=>?_) (λhx3=>?_)
 have hx3d:=of_decide_eq_true hx3
 refine Dk [(1,.bool true,.none),(2,.bool false,.none),(5,.bool true,.none),(9,.int ((i-1:Nat):Int),.none),(10,.elt 6 (λq=>AV.cell (Bs ((l).getD (i-1) Sg.none)) q),.none),(13,.bool (bP (Jg (l.getD (i-1) Sg.none) (l.getD i Sg.none))),.none),(14,.bool (!bP (Jg (l.getD (i-1) Sg.none) (l.getD i Sg.none))),.none)] [0,5,6,7,28] 1 ⟨?_,?_,?_,?_,?_,?_,?_,trivial⟩ ?_
 exact Fb.cast (Br 74 #[.tmp 12] #[67] [Bs ((l).getD i Sg.none)] (.bool (decide (Gm (l.getD i Sg.none)))) (Qs (l.getD i Sg.none) (hl.2 i))) (congrArg AV.bool hx2) (by kernel_rfl)
 exact uZ
 exact Fb.cast (Dx (v:= .bool (decide ((0:Int)<(i:Int)))) (v':= .bool (decide ((0:Int)<(i:Int)))) rfl _) (congrArg AV.bool hx3) (by kernel_rfl)
 exact Yk ((i:Int)-1)
 exact Bn (Bk 41 (.tmp 19) (.tmp 21) underlying41 6 ((l).length) (i-1) (λi0=>Bs ((l).getD i0 Sg.none)) ((i-1:Nat):Int) sizeOf67)
 exact Bn (Br 61 #[.tmp 23,.tmp 24] #[67,67] [Bs ((l).getD (i-1) Sg.none),Bs ((l).getD i Sg.none)] (.bool (bP (Jg (l.getD (i-1) Sg.none) (l.getD i Sg.none)))) (jL _ _ (hl.2 (i-1)) (hl.2 i) (hFi (i-1) (by omega)).1 (of_decide_eq_true (by assumption))))
 exact uZ
 refine Ao (bP (Jg (l.getD (i-1) Sg.none) (l.getD i Sg.none))) (λhx4=>?_) (λhx4=>?_)
 refine qF (nt hx4) ?_
 refine Aw (Ee [0,5,6,7,28] ⟨[(0,Bj l),(5,Bj l),(6,.int ((l).length:Int)),(7,.int (i:Int)),(28,.bool false)],[(0,.box 67 [.int (((l).getD i Sg.none).f),.int (((l).getD i Sg.none).t),.int (((l).getD i Sg.none).o),Bc (((l).getD i Sg.none).x),Bc (((l).getD i Sg.none).y),Bc (((l).getD i Sg.none).z)])],1,38⟩ ?_)
 refine Hg [] 0 0 hA0 _ (Av Cx) ?_
 refine Bi (qw ((i:Int)+1) ((i+1:Nat):Int) ?_)
 refine Ae 1 ?_
 refine Bx [0,5,6,7] ?_
 exact⟨_,(by omega:l.length-(i+1)<l.length-i),i+1,(by omega),rfl,(λq hq=>(Nat.lt_or_ge q i).elim (λg=>hFi q g) λg=>by have e:q=i:=(by omega);subst e;exact⟨of_decide_eq_true hx2,λ_=>Cq hx4⟩),(by kernel_rfl)⟩
 refine qT (nf hx4) ?_
 refine Bu 1 [2] ?_
 refine Be ?_
 exact⟨.inl rfl,(Bv results57 (Ak (x:= .bool false) (by kernel_rfl) (by kernel_rfl))).cast (congrArg AV.bool (Ce (by rintro⟨g1,g2,g3⟩;first|omega|exact Tx hx4 ((g1 i (by omega)).2 (by omega))|exact absurd (g1 i (by omega)).1 (of_decide_eq_false hx2))).symm)⟩
 have hx3d:=of_decide_eq_false hx3
 refine Dk [(1,.bool true,.none),(2,.bool false,.none),(5,.bool false,.none)] [0,5,6,7,28] 1 ⟨?_,?_,?_,trivial⟩ ?_
 exact Fb.cast (Br 74 #[.tmp 12] #[67] [Bs ((l).getD i Sg.none)] (.bool (decide (Gm (l.getD i Sg.none)))) (Qs (l.getD i Sg.none) (hl.2 i))) (congrArg AV.bool hx2) (by kernel_rfl)
 exact uZ
 exact Fb.cast (Dx (v:= .bool (decide ((0:Int)<(i:Int)))) (v':= .bool (decide ((0:Int)<(i:Int)))) rfl _) (congrArg AV.bool hx3) (by kernel_rfl)
 refine Bq (Aw ?_)
 refine Ee [0,5,6,7,28] ⟨[(0,Bj l),(5,Bj l),(6,.int ((l).length:Int)),(7,.int (i:Int)),(28,.bool false)],[(0,.box 67 [.int (((l).getD i Sg.none).f),.int (((l).getD i Sg.none).t),.int (((l).getD i Sg.none).o),Bc (((l).getD i Sg.none).x),Bc (((l).getD i Sg.none).y),Bc (((l).getD i Sg.none).z)])],1,38⟩ ?_
 refine Hg [] 0 0 hA0 _ (Av Cx) ?_
 refine Bi (qw ((i:Int)+1) ((i+1:Nat):Int) ?_)
 refine Ae 1 ?_
 refine Bx [0,5,6,7] ?_
 exact⟨_,(by omega:l.length-(i+1)<l.length-i),i+1,(by omega),rfl,(λq hq=>(Nat.lt_or_ge q i).elim (λg=>hFi q g) λg=>by have e:q=i:=(by omega);subst e;exact⟨of_decide_eq_true hx2,λhz=>absurd hz (by omega)⟩),(by kernel_rfl)⟩
 have hx2d:=of_decide_eq_false hx2
 refine Dk [(1,.bool false,.none),(2,.bool true,.none)] [0,5,6,7,28] 1 ⟨?_,?_,trivial⟩ ?_
 exact Fb.cast (Br 74 #[.tmp 12] #[67] [Bs ((l).getD i Sg.none)] (.bool (decide (Gm (l.getD i Sg.none)))) (Qs (l.getD i Sg.none) (hl.2 i))) (congrArg AV.bool hx2) (by kernel_rfl)
 exact uZ
 refine Ca (Bu 1 [2] ?_)
 refine Be ?_
 exact⟨.inl rfl,(Bv results57 (Ak (x:= .bool false) (by kernel_rfl) (by kernel_rfl))).cast (congrArg AV.bool (Ce (by rintro⟨g1,g2,g3⟩;first|omega|exact absurd (g1 i (by omega)).1 (of_decide_eq_false hx2))).symm)⟩
 have hx1d:=of_decide_eq_false hx1
 refine qF hx1 ?_
 refine Co (Ab ?_)
 refine Ae 1 ?_
 refine Bl (.int ((l).length:Int)) (Dg (.tmp 30) 41 #[41] underlying41 ((l).length) (.inl ⟨6,(λi0=>Bs ((l).getD i0 Sg.none)),by kernel_rfl⟩)) ?_
 refine qb (decide ((1:Int)<=((l).length:Int))) ?_
 refine Ae 1 ?_
 refine Ao (decide ((1:Int)<=((l).length:Int))) (λhx5=>?_) (λhx5=>?_)
 have hx5d:=of_decide_eq_true hx5
 refine Bg 33 _ true hx5 ?_
 refine Ae 1 ?_
 refine Ei (.int ((l).length:Int)) .none (Dg (.tmp 34) 41 #[41] underlying41 ((l).length) (.inl ⟨6,(λi0=>Bs ((l).getD i0 Sg.none)),by kernel_rfl⟩)) ?_
 refine Ga (decide (((l).length:Int)<=256)) ?_
 refine Ae 2 ?_
 refine As [2] ?_
 refine Be ?_
 exact⟨.inl rfl,(Bv results57 (Ak (x:= .bool (decide (((l).length:Int)<=256))) (by kernel_rfl) (by kernel_rfl))).cast (congrArg AV.bool (if hz:l.length<=256 then (decide_eq_true (by omega)).trans (Dq ⟨λq hq=>hFi q (by omega),by omega,by omega⟩).symm else (decide_eq_false (by omega)).trans (Ce (λg=>hz g.2.2)).symm))⟩
 have hx5d:=of_decide_eq_false hx5
 refine Bg 33 _ false hx5 ?_
 refine Ae 5 ?_
 refine As [2] ?_
 refine Be ?_
 exact⟨.inl rfl,(Bv results57 (Ak (x:= .bool false) (by kernel_rfl) (by kernel_rfl))).cast (congrArg AV.bool (Ce (by rintro⟨g1,g2,g3⟩;first|omega)).symm)⟩
theorem fV (l:List Int) (v:Value) (w:World) (h:Cz w 0 w.heap.size 1 v l.length (El l)) (hl:0<l.length) (hm:l.length<=1000000):
  Calls Tryz.prog 83 #[v] w λe w'=>∃v',e= .returned v'/\Cz w' w.heap.size w'.heap.size 1 v' l.length (El l)/\Below w.heap.size w w':=by
 obtain⟨i0,hi0,hz0,hz1,hz2⟩:=info_parts aO
 obtain⟨b,o,c,rfl,_,hb,hc⟩:=h.pos hl
 have hnil:=λW=>Lib.run_eql_slice_nil (P:=Tryz.prog) W 65 3 (some ⟨b,o,none⟩) l.length c 0 0 underlying65
 clear hc
 go_enter func83,ntmps83
 have hown:=Vt w [] 0 w.heap.size 1 3 rfl rfl (by decide)
 have hs1:=h.up ((Below.refl w.heap.size w).alloc (Nat.le_refl _) (.cells #[] 3))
 go_wp2_with (at_builtin;refine Fo rfl (.tmp 5) (.tmp 6) 65 rfl w.heap.size 3 i0 _ 1 8 underlying65 hi0 hz0 hz1 hz2 rfl (by decide) _ _ _ rfl hown _ _ _ _ rfl hs1 (aP l) ?_ ?_ ?_ ?_)
 · unfold maxLen;omega
 · omega
 · simp
 intro v' w1 hown1 hg1 hat1
 go_wp2
 go_ret
 refine⟨_,rfl,Cz.own hown1,((Below.refl _ _).alloc (Nat.le_refl _) _).grown hg1 (by simp) ?_⟩
 rintro j hj
 simp[Value.ownBlock] at hj
 omega
theorem Fi (l:List Int) (hl:0<l.length) (hm:l.length<=1000000):AF Tryz.prog 83 [Bc l] (Bc l):=pV λE us hD hn hv=>by
 rw[iB hn]
 have h0:=hv 0 (by simp)
 have h1:Dy E.w E.D 1 (us.getD 0 undef) l.length (El l):=AbD (E:=E.fz) h0
 refine(fV l _ E.w (h1.more λb hb=>⟨Nat.zero_le _,hD b hb⟩) hl hm).mono ?_
 rintro e w' ⟨v',rfl,hs,hb⟩
 exact⟨_,rfl,hb,λE' h1 h2 h3=>Yq hs h1 λb hb=>h3 b hb.1 hb.2⟩
def pZ (l:List Sg):Prop:=∀i,i<l.length->(0<(l.getD i Sg.none).x.length/\(l.getD i Sg.none).x.length<=6)/\(0<(l.getD i Sg.none).y.length/\(l.getD i Sg.none).y.length<=6)/\(0<(l.getD i Sg.none).z.length/\(l.getD i Sg.none).z.length<=6)
theorem Aa9 (l:List Sg) (hn:l.length<=1000000) (hl:0<l.length) (hc:pZ l):AF Tryz.prog 62 [Bj l] (Bj l):=by
 refine Dl ⟨[(0,Bj l)],[],0,30⟩ func62 rfl 30 ntmps62 (by kernel_rfl) (by kernel_rfl) λB D0 hA0=>?_
 refine Bu 1 [0] ?_
 refine Bu 1 [0,3] ?_
 refine Al (Ab ?_)
 refine Ae 1 ?_
 refine Bl (.int ((l).length:Int)) (Dg (.tmp 6) 41 #[41] underlying41 ((l).length) (.inl ⟨6,(λi0=>Bs ((l).getD i0 Sg.none)),by kernel_rfl⟩)) ?_
 refine Ae 1 ?_
 refine As [3,6,7,8] ?_
 refine Bb (Cn (λm s=>∃i,i<=l.length/\m=l.length-i/\True/\((i=0/\s=⟨[(3,.lit (.slice none 0 0)),(6,Bj l),(7,.int ((l).length:Int)),(8,.int ((0:Nat):Int))],[],0,30⟩)\/(0<i/\s=⟨[(3,.osl 9 6 i),(6,Bj l),(7,.int ((l).length:Int)),(8,.int (i:Int))],[(9,.vec 67 6 i (λxi=>Bs (l.getD xi Sg.none)))],10,30⟩))) l.length ⟨0,Nat.zero_le _,rfl,trivial,.inl ⟨rfl,(by kernel_rfl)⟩⟩ ?_)
 rintro _ _ ⟨i,hin,rfl,hFi,(⟨hi0,rfl⟩|⟨hi0,rfl⟩)⟩
 subst hi0
 refine Ab (qb (decide (((0:Nat):Int)<((l).length:Int))) ?_)
 refine As [3,6,7,8,9] ?_
 refine Al ?_
 refine Ao (decide (((0:Nat):Int)<((l).length:Int))) (λhx1=>?_) (λhx1=>?_)
 have hx1d:=of_decide_eq_true hx1
 refine qT hx1 ?_
 refine Aw (Al ?_)
 refine Bb (Ab ?_)
 refine Bl (.elt 6 (λq=>AV.cell (Bs ((l).getD 0 Sg.none)) q)) (Bk 41 (.tmp 6) (.tmp 8) underlying41 6 ((l).length) 0 (λi0=>Bs ((l).getD i0 Sg.none)) ((0:Nat):Int) sizeOf67) ?_
 refine Ae 3 ?_
 refine As [3,5,6,7,8] ?_
 refine Dk [(2,Bc (((l).getD 0 Sg.none).x),.none),(5,Bc (((l).getD 0 Sg.none).y),.none),(8,Bc (((l).getD 0 Sg.none).z),.none)] [3,5,6,7,8] 1 ⟨?_,?_,?_,trivial⟩ ?_
 exact Bn (Br 83 #[.tmp 13] #[65] [Bc (((l).getD 0 Sg.none).x)] (Bc (((l).getD 0 Sg.none).x)) (Fi _ (hc 0 (by omega)).1.1 (by have:=(hc 0 (by omega)).1.2;omega)))
 exact Bn (Br 83 #[.tmp 16] #[65] [Bc (((l).getD 0 Sg.none).y)] (Bc (((l).getD 0 Sg.none).y)) (Fi _ (hc 0 (by omega)).2.1.1 (by have:=(hc 0 (by omega)).2.1.2;omega)))
 exact Bn (Br 83 #[.tmp 19] #[65] [Bc (((l).getD 0 Sg.none).z)] (Bc (((l).getD 0 Sg.none).z)) (Fi _ (hc 0 (by omega)).2.2.1 (by have:=(hc 0 (by omega)).2.2.2;omega)))
 refine Bi (Ae 2 ?_)
 refine Mw (.osl 1 6 1) (.new 1 (.vec 67 6 1 (λ_=>Bs ((l).getD 0 Sg.none)))) (Cp 41 1 #[(0,(.tmp 25))] underlying41 6 sizeOf67 _ zeroValue67 1 [.int (((l).getD 0 Sg.none).f),.int (((l).getD 0 Sg.none).t),.int (((l).getD 0 Sg.none).o),Bc (((l).getD 0 Sg.none).x),Bc (((l).getD 0 Sg.none).y),Bc (((l).getD 0 Sg.none).z)] (λ_=>Bs ((l).getD 0 Sg.none))) ?_
 refine Mw (.osl 2 6 1) (.newr 1 2 (.vec 67 6 1 (λxi=>Bs (l.getD xi Sg.none)))) (Ez (.tmp 24) (.tmp 26) 41 (by kernel_rfl) underlying41 6 96 (.agg #[.int .i64 0,.int .i64 0,.int .i64 0,.slice none 0 0,.slice none 0 0,.slice none 0 0]) (by kernel_rfl) (by kernel_rfl) (by decide) 1 (by omega) (λ_=>Bs ((l).getD 0 Sg.none)) (λxi=>Bs (l.getD xi Sg.none)) 2 (λi hi=>by(obtain rfl:i=0:=(by omega));rfl) (λi hi j hj=>match j,hj with|0,_=>rfl|1,_=>rfl|2,_=>rfl|3,_=>rfl|4,_=>rfl|5,_=>rfl|_+6,h=>absurd h (by omega)) (by unfold maxLen;omega) (by omega) (by kernel_rfl) 1 67 (by kernel_rfl) (by kernel_rfl)) ?_
 refine Ae 1 ?_
 refine Bx [3,6,7,8] ?_
 refine Ee [3,6,7,8] ⟨[(3,.osl 2 6 1),(6,Bj l),(7,.int ((l).length:Int)),(8,.int ((0:Nat):Int))],[(0,.box 67 [.int (((l).getD 0 Sg.none).f),.int (((l).getD 0 Sg.none).t),.int (((l).getD 0 Sg.none).o),Bc (((l).getD 0 Sg.none).x),Bc (((l).getD 0 Sg.none).y),Bc (((l).getD 0 Sg.none).z)]),(1,.vec 67 6 1 (λ_=>Bs ((l).getD 0 Sg.none))),(2,.vec 67 6 1 (λxi=>Bs (l.getD xi Sg.none)))],3,30⟩ ?_
 refine Hg [(2,9)] 10 0 hA0 _ (Av (Ck (λi _ j hj=>match j,hj with|0,_=>rfl|1,_=>rfl|2,_=>rfl|3,_=>rfl|4,_=>rfl|5,_=>rfl|_+6,h=>absurd h (by omega)) (Ck (λi _ j hj=>match j,hj with|0,_=>rfl|1,_=>rfl|2,_=>rfl|3,_=>rfl|4,_=>rfl|5,_=>rfl|_+6,h=>absurd h (by omega)) Cx))) ?_
 refine Bi (qw (((0:Nat):Int)+1) ((0+1:Nat):Int) ?_)
 refine Ae 1 ?_
 refine Bx [3,6,7,8] ?_
 exact⟨_,(by omega:l.length-(0+1)<l.length-0),0+1,(by omega),rfl,trivial,.inr ⟨Nat.succ_pos _,(by kernel_rfl)⟩⟩
 have hx1d:=of_decide_eq_false hx1
 refine qF hx1 ?_
 refine Co (Bu 2 [2] ?_)
 refine Be ?_
 exact⟨.inl rfl,(Bv results62 (Ak (x:= .lit (.slice none 0 0)) (by kernel_rfl) (by kernel_rfl))).cast (by exfalso;omega)⟩
 refine Ab (qb (decide ((i:Int)<((l).length:Int))) ?_)
 refine As [3,6,7,8,9] ?_
 refine Al ?_
 refine Ao (decide ((i:Int)<((l).length:Int))) (λhx2=>?_) (λhx2=>?_)
 have hx2d:=of_decide_eq_true hx2
 refine qT hx2 ?_
 refine Aw (Al ?_)
 refine Bb (Ab ?_)
 refine Bl (.elt 6 (λq=>AV.cell (Bs ((l).getD i Sg.none)) q)) (Bk 41 (.tmp 6) (.tmp 8) underlying41 6 ((l).length) i (λi0=>Bs ((l).getD i0 Sg.none)) (i:Int) sizeOf67) ?_
 refine Ae 3 ?_
 refine As [3,5,6,7,8] ?_
 refine Dk [(2,Bc (((l).getD i Sg.none).x),.none),(5,Bc (((l).getD i Sg.none).y),.none),(8,Bc (((l).getD i Sg.none).z),.none)] [3,5,6,7,8] 11 ⟨?_,?_,?_,trivial⟩ ?_
 exact Bn (Br 83 #[.tmp 13] #[65] [Bc (((l).getD i Sg.none).x)] (Bc (((l).getD i Sg.none).x)) (Fi _ (hc i (by omega)).1.1 (by have:=(hc i (by omega)).1.2;omega)))
 exact Bn (Br 83 #[.tmp 16] #[65] [Bc (((l).getD i Sg.none).y)] (Bc (((l).getD i Sg.none).y)) (Fi _ (hc i (by omega)).2.1.1 (by have:=(hc i (by omega)).2.1.2;omega)))
 exact Bn (Br 83 #[.tmp 19] #[65] [Bc (((l).getD i Sg.none).z)] (Bc (((l).getD i Sg.none).z)) (Fi _ (hc i (by omega)).2.2.1 (by have:=(hc i (by omega)).2.2.2;omega)))
 refine Bi (Ae 2 ?_)
 refine Mw (.osl 11 6 1) (.new 11 (.vec 67 6 1 (λ_=>Bs ((l).getD i Sg.none)))) (Cp 41 1 #[(0,(.tmp 25))] underlying41 6 sizeOf67 _ zeroValue67 11 [.int (((l).getD i Sg.none).f),.int (((l).getD i Sg.none).t),.int (((l).getD i Sg.none).o),Bc (((l).getD i Sg.none).x),Bc (((l).getD i Sg.none).y),Bc (((l).getD i Sg.none).z)] (λ_=>Bs ((l).getD i Sg.none))) ?_
 refine Mw (.osl 12 6 (i+1)) (.grow2 9 11 12 (.vec 67 6 (i+1) (λxi=>Bs (l.getD xi Sg.none)))) (Gx (.tmp 24) (.tmp 26) 41 (by kernel_rfl) underlying41 6 96 (.agg #[.int .i64 0,.int .i64 0,.int .i64 0,.slice none 0 0,.slice none 0 0,.slice none 0 0]) (by kernel_rfl) (by kernel_rfl) (by decide) i 1 (by omega) (λxi=>Bs (l.getD xi Sg.none)) (λ_=>Bs ((l).getD i Sg.none)) (λxi=>Bs (l.getD xi Sg.none)) 12 (by omega) (by unfold maxLen;omega) (λi hi=>rfl) (λi hi=>by(obtain rfl:i=0:=(by omega));rfl) (λi hi j hj=>match j,hj with|0,_=>rfl|1,_=>rfl|2,_=>rfl|3,_=>rfl|4,_=>rfl|5,_=>rfl|_+6,h=>absurd h (by omega)) 9 (by kernel_rfl) (by kernel_rfl) 11 67 (by kernel_rfl) (by kernel_rfl)) ?_
 refine Ae 1 ?_
 refine Bx [3,6,7,8] ?_
 refine Ee [3,6,7,8] ⟨[(3,.osl 12 6 (i+1)),(6,Bj l),(7,.int ((l).length:Int)),(8,.int (i:Int))],[(10,.box 67 [.int (((l).getD i Sg.none).f),.int (((l).getD i Sg.none).t),.int (((l).getD i Sg.none).o),Bc (((l).getD i Sg.none).x),Bc (((l).getD i Sg.none).y),Bc (((l).getD i Sg.none).z)]),(11,.vec 67 6 1 (λ_=>Bs ((l).getD i Sg.none))),(12,.vec 67 6 (i+1) (λxi=>Bs (l.getD xi Sg.none)))],13,30⟩ ?_
 refine Hg [(12,9)] 10 0 hA0 _ (Av (Ck (λi _ j hj=>match j,hj with|0,_=>rfl|1,_=>rfl|2,_=>rfl|3,_=>rfl|4,_=>rfl|5,_=>rfl|_+6,h=>absurd h (by omega)) (Ck (λi _ j hj=>match j,hj with|0,_=>rfl|1,_=>rfl|2,_=>rfl|3,_=>rfl|4,_=>rfl|5,_=>rfl|_+6,h=>absurd h (by omega)) Cx))) ?_
 refine Bi (qw ((i:Int)+1) ((i+1:Nat):Int) ?_)
 refine Ae 1 ?_
 refine Bx [3,6,7,8] ?_
 exact⟨_,(by omega:l.length-(i+1)<l.length-i),i+1,(by omega),rfl,trivial,.inr ⟨Nat.succ_pos _,(by kernel_rfl)⟩⟩
 have hx2d:=of_decide_eq_false hx2
 refine qF hx2 ?_
 refine Co (Bu 2 [2] ?_)
 refine Tt 9 [2] 67 6 i (λxi=>Bs (l.getD xi Sg.none)) (by kernel_rfl) (by kernel_rfl) (λi _ j hj=>match j,hj with|0,_=>rfl|1,_=>rfl|2,_=>rfl|3,_=>rfl|4,_=>rfl|5,_=>rfl|_+6,h=>absurd h (by omega)) ?_
 refine Be ?_
 exact⟨.inl rfl,(Bv results62 (Ak (x:= .sl 6 i (λxi=>Bs (l.getD xi Sg.none))) (by kernel_rfl) (by kernel_rfl))).cast (congrArg (λq=>AV.sl 6 q λxi=>Bs (l.getD xi Sg.none)) (show i=l.length by omega))⟩
theorem Vw {l:List Sg} (h:Dz l):pZ l:=λi hi=>by
 have h1:=(h.1 i hi).1
 exact⟨⟨h1.2.1.1,h1.2.1.2.1⟩,⟨h1.2.2.1.1,h1.2.2.1.2.1⟩,⟨h1.2.2.2.1.1,h1.2.2.2.1.2.1⟩⟩
theorem Ri {l r:List Sg} (i:Nat):(l++r).getD i Sg.none=if i<l.length then l.getD i Sg.none else r.getD (i-l.length) Sg.none:=by
 simp only[List.getD_eq_getElem?_getD,List.getElem?_append]
 split<;>rfl
noncomputable def Fe (a b:List Sg):List Sg×Int:=
 if bP (Dz a)=false\/bP (Dz b)=false then ([],2) else if bP (Jg (a.getD (a.length-1) Sg.none) (b.getD 0 Sg.none))=false then ([],10) else if 256<a.length+b.length then ([],7) else (a++b,0)
theorem qE {a b:List Sg} (h:bP (Dz a)=false\/bP (Dz b)=false):Fe a b=([],2):=by unfold Fe;rw[if_pos h]
theorem tC {a b:List Sg} (h1:bP (Dz a)=true) (h2:bP (Dz b)=true) (h:bP (Jg (a.getD (a.length-1) Sg.none) (b.getD 0 Sg.none))=false):Fe a b=([],10):=by unfold Fe;rw[if_neg (by simp[h1,h2]),if_pos h]
theorem xJ {a b:List Sg} (h1:bP (Dz a)=true) (h2:bP (Dz b)=true) (h:bP (Jg (a.getD (a.length-1) Sg.none) (b.getD 0 Sg.none))=true) (h3:256<a.length+b.length):Fe a b=([],7):=by unfold Fe;rw[if_neg (by simp[h1,h2]),if_neg (λg=>by rw[h] at g;cases g),if_pos h3]
theorem fR {a b:List Sg} (h1:bP (Dz a)=true) (h2:bP (Dz b)=true) (h:bP (Jg (a.getD (a.length-1) Sg.none) (b.getD 0 Sg.none))=true) (h3:¬256<a.length+b.length):Fe a b=(a++b,0):=by unfold Fe;rw[if_neg (by simp[h1,h2]),if_neg (λg=>by rw[h] at g;cases g),if_neg h3]
def Qp (r:List Sg×Int):AV:=if r.2=0 then .tup [Bj r.1,.int 0] else .lit (.tuple #[.slice none 0 0,.int .i64 r.2])
theorem Mq {r:List Sg×Int} {e:Int} {l:List Sg} (h:r=(l,e)) (he:e≠0):Qp r= .lit (.tuple #[.slice none 0 0,.int .i64 e]):=by
 subst h;unfold Qp;rw[if_neg he]
theorem iP {r:List Sg×Int} {l:List Sg} (h:r=(l,0)):Qp r= .tup [Bj l,.int 0]:=by
 subst h;unfold Qp;rw[if_pos rfl]
theorem dF (a b:List Sg) (ha:Cm a) (hb:Cm b):AF Tryz.prog 45 [Bj a,Bj b] (Qp (Fe a b)):=by
 have han:=ha.1
 have hbn:=hb.1
 refine Dl ⟨[(0,Bj a),(1,Bj b)],[],0,39⟩ func45 rfl 39 ntmps45 (by kernel_rfl) (by kernel_rfl) λB D0 hA0=>?_
 refine Bu 2 [0,1] ?_
 refine Al (Bb ?_)
 refine Ab (Ae 1 ?_)
 refine Fg (Oz a ha) ?_
 refine qb (!bP (Dz a)) ?_
 refine Ae 1 ?_
 refine Ao (bP (Dz a)) (λhx1=>?_) (λhx1=>?_)
 have hx1l:=(Cq hx1).2
 have hac:=Vw (Cq hx1)
 refine Bg 10 _ false (nt hx1) ?_
 refine Ae 1 ?_
 refine Kk (Oz b hb) ?_
 refine Ga (!bP (Dz b)) ?_
 refine Ae 2 ?_
 refine As [0,1,6] ?_
 refine Ao (bP (Dz b)) (λhx2=>?_) (λhx2=>?_)
 have hx2l:=(Cq hx2).2
 refine qF (nt hx2) ?_
 refine Dk [(2,.int ((a).length:Int),.none),(3,.int (((a).length-1:Nat):Int),.none),(4,.elt 6 (λq=>AV.cell (Bs ((a).getD ((a).length-1) Sg.none)) q),.none),(7,.elt 6 (λq=>AV.cell (Bs ((b).getD 0 Sg.none)) q),.none),(9,.bool (bP (Jg (a.getD (a.length-1) Sg.none) (b.getD 0 Sg.none))),.none),(10,.bool (!bP (Jg (a.getD (a.length-1) Sg.none) (b.getD 0 Sg.none))),.none)] [0,1,15] 0 ⟨?_,?_,?_,?_,?_,?_,trivial⟩ ?_
 exact Bn (Dg (.tmp 17) 41 #[41] underlying41 ((a).length) (.inl ⟨6,(λi0=>Bs ((a).getD i0 Sg.none)),by kernel_rfl⟩))
 exact Yk (((a).length:Int)-1)
 exact Bn (Bk 41 (.tmp 16) (.tmp 19) underlying41 6 ((a).length) ((a).length-1) (λi0=>Bs ((a).getD i0 Sg.none)) (((a).length-1:Nat):Int) sizeOf67)
 exact Bn (Bk 41 (.tmp 22) (.const (.int .i64 0)) underlying41 6 ((b).length) 0 (λi0=>Bs ((b).getD i0 Sg.none)) 0 sizeOf67)
 exact Bn (Br 61 #[.tmp 21,.tmp 24] #[67,67] [Bs ((a).getD ((a).length-1) Sg.none),Bs ((b).getD 0 Sg.none)] (.bool (bP (Jg (a.getD (a.length-1) Sg.none) (b.getD 0 Sg.none)))) (jL _ _ (ha.2 _) (hb.2 _) ((Cq hx1).1 _ (by omega)).1 ((Cq hx2).1 0 (by omega)).1))
 exact uZ
 refine Ao (bP (Jg (a.getD (a.length-1) Sg.none) (b.getD 0 Sg.none))) (λhx3=>?_) (λhx3=>?_)
 refine qF (nt hx3) ?_
 refine Ab (Ae 1 ?_)
 refine Bl (.int ((a).length:Int)) (Dg (.tmp 28) 41 #[41] underlying41 ((a).length) (.inl ⟨6,(λi0=>Bs ((a).getD i0 Sg.none)),by kernel_rfl⟩)) ?_
 refine Ae 1 ?_
 refine Bl (.int ((b).length:Int)) (Dg (.tmp 30) 41 #[41] underlying41 ((b).length) (.inl ⟨6,(λi0=>Bs ((b).getD i0 Sg.none)),by kernel_rfl⟩)) ?_
 refine qw (((a).length:Int)+((b).length:Int)) (((a).length+(b).length:Nat):Int) ?_
 refine qb (decide ((256:Int)<(((a).length+(b).length:Nat):Int))) ?_
 refine Ae 1 ?_
 refine As [0,1,27] ?_
 refine Ao (decide ((256:Int)<(((a).length+(b).length:Nat):Int))) (λhx4=>?_) (λhx4=>?_)
 have hx4d:=of_decide_eq_true hx4
 refine qT hx4 ?_
 refine Bu 2 [4,5] ?_
 refine Be ?_
 exact⟨.inl rfl,(Cv results45 (Ak (x:= .lit (.slice none 0 0)) (by kernel_rfl) (by kernel_rfl)) (Ak (x:= .int 7) (by kernel_rfl) (by kernel_rfl))).cast (Mq (xJ hx1 hx2 hx3 (by omega)) (by decide)).symm⟩
 have hx4d:=of_decide_eq_false hx4
 refine qF hx4 ?_
 refine Aw (Ab ?_)
 refine Ae 1 ?_
 refine Fa 62 [Bj a] 30 rfl (by kernel_rfl) (Ps 62 #[.tmp 34] #[41] (by kernel_rfl) (λ_ _=>by kernel_rfl) _ (by kernel_rfl)) func62 rfl ntmps62 (by kernel_rfl) λ_ hD5=>?_
 refine Bu 1 [0] ?_
 refine Bu 1 [0,3] ?_
 refine Al (Ab ?_)
 refine Ae 1 ?_
 refine Bl (.int ((a).length:Int)) (Dg (.tmp 6) 41 #[41] underlying41 ((a).length) (.inl ⟨6,(λi0=>Bs ((a).getD i0 Sg.none)),by kernel_rfl⟩)) ?_
 refine Ae 1 ?_
 refine As [3,6,7,8] ?_
 refine Bb (Cn (λm s=>∃i,i<=a.length/\m=a.length-i/\True/\((i=0/\s=⟨[(3,.lit (.slice none 0 0)),(6,Bj a),(7,.int ((a).length:Int)),(8,.int ((0:Nat):Int))],[],0,30⟩)\/(0<i/\s=⟨[(3,.osl 9 6 i),(6,Bj a),(7,.int ((a).length:Int)),(8,.int (i:Int))],[(9,.vec 67 6 i (λxi=>Bs (a.getD xi Sg.none)))],10,30⟩))) a.length ⟨0,Nat.zero_le _,rfl,trivial,.inl ⟨rfl,(by kernel_rfl)⟩⟩ ?_)
 rintro _ _ ⟨i,hin,rfl,hFi,(⟨hi0,rfl⟩|⟨hi0,rfl⟩)⟩
 subst hi0
 refine Ab (qb (decide (((0:Nat):Int)<((a).length:Int))) ?_)
 refine As [3,6,7,8,9] ?_
 refine Al ?_
 refine Ao (decide (((0:Nat):Int)<((a).length:Int))) (λhx6=>?_) (λhx6=>?_)
 have hx6d:=of_decide_eq_true hx6
 refine qT hx6 ?_
 refine Aw (Al ?_)
 refine Bb (Ab ?_)
 refine Bl (.elt 6 (λq=>AV.cell (Bs ((a).getD 0 Sg.none)) q)) (Bk 41 (.tmp 6) (.tmp 8) underlying41 6 ((a).length) 0 (λi0=>Bs ((a).getD i0 Sg.none)) ((0:Nat):Int) sizeOf67) ?_
 refine Ae 3 ?_
 refine As [3,5,6,7,8] ?_
 refine Dk [(2,Bc (((a).getD 0 Sg.none).x),.none),(5,Bc (((a).getD 0 Sg.none).y),.none),(8,Bc (((a).getD 0 Sg.none).z),.none)] [3,5,6,7,8] 1 ⟨?_,?_,?_,trivial⟩ ?_
 exact Bn (Br 83 #[.tmp 13] #[65] [Bc (((a).getD 0 Sg.none).x)] (Bc (((a).getD 0 Sg.none).x)) (Fi _ (hac 0 (by omega)).1.1 (by have:=(hac 0 (by omega)).1.2;omega)))
 exact Bn (Br 83 #[.tmp 16] #[65] [Bc (((a).getD 0 Sg.none).y)] (Bc (((a).getD 0 Sg.none).y)) (Fi _ (hac 0 (by omega)).2.1.1 (by have:=(hac 0 (by omega)).2.1.2;omega)))
 exact Bn (Br 83 #[.tmp 19] #[65] [Bc (((a).getD 0 Sg.none).z)] (Bc (((a).getD 0 Sg.none).z)) (Fi _ (hac 0 (by omega)).2.2.1 (by have:=(hac 0 (by omega)).2.2.2;omega)))
 refine Bi (Ae 2 ?_)
 refine Mw (.osl 1 6 1) (.new 1 (.vec 67 6 1 (λ_=>Bs ((a).getD 0 Sg.none)))) (Cp 41 1 #[(0,(.tmp 25))] underlying41 6 sizeOf67 _ zeroValue67 1 [.int (((a).getD 0 Sg.none).f),.int (((a).getD 0 Sg.none).t),.int (((a).getD 0 Sg.none).o),Bc (((a).getD 0 Sg.none).x),Bc (((a).getD 0 Sg.none).y),Bc (((a).getD 0 Sg.none).z)] (λ_=>Bs ((a).getD 0 Sg.none))) ?_
 refine Mw (.osl 2 6 1) (.newr 1 2 (.vec 67 6 1 (λxi=>Bs (a.getD xi Sg.none)))) (Ez (.tmp 24) (.tmp 26) 41 (by kernel_rfl) underlying41 6 96 (.agg #[.int .i64 0,.int .i64 0,.int .i64 0,.slice none 0 0,.slice none 0 0,.slice none 0 0]) (by kernel_rfl) (by kernel_rfl) (by decide) 1 (by omega) (λ_=>Bs ((a).getD 0 Sg.none)) (λxi=>Bs (a.getD xi Sg.none)) 2 (λi hi=>by(obtain rfl:i=0:=(by omega));rfl) (λi hi j hj=>match j,hj with|0,_=>rfl|1,_=>rfl|2,_=>rfl|3,_=>rfl|4,_=>rfl|5,_=>rfl|_+6,h=>absurd h (by omega)) (by unfold maxLen;omega) (by omega) (by kernel_rfl) 1 67 (by kernel_rfl) (by kernel_rfl)) ?_
 refine Ae 1 ?_
 refine Bx [3,6,7,8] ?_
 refine Ee [3,6,7,8] ⟨[(3,.osl 2 6 1),(6,Bj a),(7,.int ((a).length:Int)),(8,.int ((0:Nat):Int))],[(0,.box 67 [.int (((a).getD 0 Sg.none).f),.int (((a).getD 0 Sg.none).t),.int (((a).getD 0 Sg.none).o),Bc (((a).getD 0 Sg.none).x),Bc (((a).getD 0 Sg.none).y),Bc (((a).getD 0 Sg.none).z)]),(1,.vec 67 6 1 (λ_=>Bs ((a).getD 0 Sg.none))),(2,.vec 67 6 1 (λxi=>Bs (a.getD xi Sg.none)))],3,30⟩ ?_
 refine Hg [(2,9)] 10 0 hD5 _ (Av (Ck (λi _ j hj=>match j,hj with|0,_=>rfl|1,_=>rfl|2,_=>rfl|3,_=>rfl|4,_=>rfl|5,_=>rfl|_+6,h=>absurd h (by omega)) (Ck (λi _ j hj=>match j,hj with|0,_=>rfl|1,_=>rfl|2,_=>rfl|3,_=>rfl|4,_=>rfl|5,_=>rfl|_+6,h=>absurd h (by omega)) Cx))) ?_
 refine Bi (qw (((0:Nat):Int)+1) ((0+1:Nat):Int) ?_)
 refine Ae 1 ?_
 refine Bx [3,6,7,8] ?_
 exact⟨_,(by omega:a.length-(0+1)<a.length-0),0+1,(by omega),rfl,trivial,.inr ⟨Nat.succ_pos _,(by kernel_rfl)⟩⟩
 have hx6d:=of_decide_eq_false hx6
 refine qF hx6 ?_
 refine Co ?_
 exfalso;omega
 refine Ab (qb (decide ((i:Int)<((a).length:Int))) ?_)
 refine As [3,6,7,8,9] ?_
 refine Al ?_
 refine Ao (decide ((i:Int)<((a).length:Int))) (λhx7=>?_) (λhx7=>?_)
 have hx7d:=of_decide_eq_true hx7
 refine qT hx7 ?_
 refine Aw (Al ?_)
 refine Bb (Ab ?_)
 refine Bl (.elt 6 (λq=>AV.cell (Bs ((a).getD i Sg.none)) q)) (Bk 41 (.tmp 6) (.tmp 8) underlying41 6 ((a).length) i (λi0=>Bs ((a).getD i0 Sg.none)) (i:Int) sizeOf67) ?_
 refine Ae 3 ?_
 refine As [3,5,6,7,8] ?_
 refine Dk [(2,Bc (((a).getD i Sg.none).x),.none),(5,Bc (((a).getD i Sg.none).y),.none),(8,Bc (((a).getD i Sg.none).z),.none)] [3,5,6,7,8] 11 ⟨?_,?_,?_,trivial⟩ ?_
 exact Bn (Br 83 #[.tmp 13] #[65] [Bc (((a).getD i Sg.none).x)] (Bc (((a).getD i Sg.none).x)) (Fi _ (hac i (by omega)).1.1 (by have:=(hac i (by omega)).1.2;omega)))
 exact Bn (Br 83 #[.tmp 16] #[65] [Bc (((a).getD i Sg.none).y)] (Bc (((a).getD i Sg.none).y)) (Fi _ (hac i (by omega)).2.1.1 (by have:=(hac i (by omega)).2.1.2;omega)))
 exact Bn (Br 83 #[.tmp 19] #[65] [Bc (((a).getD i Sg.none).z)] (Bc (((a).getD i Sg.none).z)) (Fi _ (hac i (by omega)).2.2.1 (by have:=(hac i (by omega)).2.2.2;omega)))
 refine Bi (Ae 2 ?_)
 refine Mw (.osl 11 6 1) (.new 11 (.vec 67 6 1 (λ_=>Bs ((a).getD i Sg.none)))) (Cp 41 1 #[(0,(.tmp 25))] underlying41 6 sizeOf67 _ zeroValue67 11 [.int (((a).getD i Sg.none).f),.int (((a).getD i Sg.none).t),.int (((a).getD i Sg.none).o),Bc (((a).getD i Sg.none).x),Bc (((a).getD i Sg.none).y),Bc (((a).getD i Sg.none).z)] (λ_=>Bs ((a).getD i Sg.none))) ?_
 refine Mw (.osl 12 6 (i+1)) (.grow2 9 11 12 (.vec 67 6 (i+1) (λxi=>Bs (a.getD xi Sg.none)))) (Gx (.tmp 24) (.tmp 26) 41 (by kernel_rfl) underlying41 6 96 (.agg #[.int .i64 0,.int .i64 0,.int .i64 0,.slice none 0 0,.slice none 0 0,.slice none 0 0]) (by kernel_rfl) (by kernel_rfl) (by decide) i 1 (by omega) (λxi=>Bs (a.getD xi Sg.none)) (λ_=>Bs ((a).getD i Sg.none)) (λxi=>Bs (a.getD xi Sg.none)) 12 (by omega) (by unfold maxLen;omega) (λi hi=>rfl) (λi hi=>by(obtain rfl:i=0:=(by omega));rfl) (λi hi j hj=>match j,hj with|0,_=>rfl|1,_=>rfl|2,_=>rfl|3,_=>rfl|4,_=>rfl|5,_=>rfl|_+6,h=>absurd h (by omega)) 9 (by kernel_rfl) (by kernel_rfl) 11 67 (by kernel_rfl) (by kernel_rfl)) ?_
 refine Ae 1 ?_
 refine Bx [3,6,7,8] ?_
 refine Ee [3,6,7,8] ⟨[(3,.osl 12 6 (i+1)),(6,Bj a),(7,.int ((a).length:Int)),(8,.int (i:Int))],[(10,.box 67 [.int (((a).getD i Sg.none).f),.int (((a).getD i Sg.none).t),.int (((a).getD i Sg.none).o),Bc (((a).getD i Sg.none).x),Bc (((a).getD i Sg.none).y),Bc (((a).getD i Sg.none).z)]),(11,.vec 67 6 1 (λ_=>Bs ((a).getD i Sg.none))),(12,.vec 67 6 (i+1) (λxi=>Bs (a.getD xi Sg.none)))],13,30⟩ ?_
 refine Hg [(12,9)] 10 0 hD5 _ (Av (Ck (λi _ j hj=>match j,hj with|0,_=>rfl|1,_=>rfl|2,_=>rfl|3,_=>rfl|4,_=>rfl|5,_=>rfl|_+6,h=>absurd h (by omega)) (Ck (λi _ j hj=>match j,hj with|0,_=>rfl|1,_=>rfl|2,_=>rfl|3,_=>rfl|4,_=>rfl|5,_=>rfl|_+6,h=>absurd h (by omega)) Cx))) ?_
 refine Bi (qw ((i:Int)+1) ((i+1:Nat):Int) ?_)
 refine Ae 1 ?_
 refine Bx [3,6,7,8] ?_
 exact⟨_,(by omega:a.length-(i+1)<a.length-i),i+1,(by omega),rfl,trivial,.inr ⟨Nat.succ_pos _,(by kernel_rfl)⟩⟩
 have hx7d:=of_decide_eq_false hx7
 refine qF hx7 ?_
 refine Co ?_
 have hie:i=a.length:=by omega
 subst hie
 refine Bu 2 [2] ?_
 refine Be ?_
 refine⟨.inl rfl,.osl 9 6 a.length,(Aca results62 (Fn (x:= .osl 9 6 a.length) (by kernel_rfl))).castI (by kernel_rfl),?_⟩
 refine Ae 1 ?_
 refine Fg (Aa9 b hbn (by omega) (Vw (Cq hx2))) ?_
 refine Mw (.osl 10 6 (a.length+(b).length)) (.grow 9 10 (.vec 67 6 (a.length+(b).length) (λxi=>Bs ((a++b).getD xi Sg.none)))) (cM (.tmp 35) (.tmp 37) 41 (by kernel_rfl) underlying41 6 96 (.agg #[.int .i64 0,.int .i64 0,.int .i64 0,.slice none 0 0,.slice none 0 0,.slice none 0 0]) (by kernel_rfl) (by kernel_rfl) (by decide) a.length ((b).length) (by omega) (λxi=>Bs (a.getD xi Sg.none)) (λi0=>Bs ((b).getD i0 Sg.none)) (λxi=>Bs ((a++b).getD xi Sg.none)) 10 (by omega) (by unfold maxLen;omega) (λi hi=>by show Bs _=Bs _;rw[Ri,if_pos hi]) (λi hi=>by show Bs _=Bs _;rw[Ri,if_neg (by omega),Nat.add_sub_cancel_left]) (λi hi j hj=>match j,hj with|0,_=>rfl|1,_=>rfl|2,_=>rfl|3,_=>rfl|4,_=>rfl|5,_=>rfl|_+6,h=>absurd h (by omega)) 9 (by kernel_rfl) (by kernel_rfl) (by kernel_rfl)) ?_
 refine Ae 2 ?_
 refine As [4,5] ?_
 refine Tt 10 [4] 67 6 (a.length+(b).length) (λxi=>Bs ((a++b).getD xi Sg.none)) (by kernel_rfl) (by kernel_rfl) (λi _ j hj=>match j,hj with|0,_=>rfl|1,_=>rfl|2,_=>rfl|3,_=>rfl|4,_=>rfl|5,_=>rfl|_+6,h=>absurd h (by omega)) ?_
 refine Be ?_
 exact⟨.inl rfl,(Cv results45 (Ak (x:= .sl 6 (a.length+(b).length) (λxi=>Bs ((a++b).getD xi Sg.none))) (by kernel_rfl) (by kernel_rfl)) (Ak (x:= .int 0) (by kernel_rfl) (by kernel_rfl))).cast ((iP (fR hx1 hx2 hx3 (by omega))).trans (congrArg (λq=>AV.tup [AV.sl 6 q λxi=>Bs ((a++b).getD xi Sg.none),.int 0]) List.length_append)).symm⟩
 refine qT (nf hx3) ?_
 refine Bu 2 [4,5] ?_
 refine Be ?_
 exact⟨.inl rfl,(Cv results45 (Ak (x:= .lit (.slice none 0 0)) (by kernel_rfl) (by kernel_rfl)) (Ak (x:= .int 10) (by kernel_rfl) (by kernel_rfl))).cast (Mq (tC hx1 hx2 hx3) (by decide)).symm⟩
 refine qT (nf hx2) ?_
 refine Bu 2 [4,5] ?_
 refine Be ?_
 exact⟨.inl rfl,(Cv results45 (Ak (x:= .lit (.slice none 0 0)) (by kernel_rfl) (by kernel_rfl)) (Ak (x:= .int 2) (by kernel_rfl) (by kernel_rfl))).cast (Mq (qE (.inr hx2)) (by decide)).symm⟩
 refine Bg 10 _ true (nf hx1) ?_
 refine Ae 5 ?_
 refine As [0,1,6] ?_
 refine Ca (Bu 2 [4,5] ?_)
 refine Be ?_
 exact⟨.inl rfl,(Cv results45 (Ak (x:= .lit (.slice none 0 0)) (by kernel_rfl) (by kernel_rfl)) (Ak (x:= .int 2) (by kernel_rfl) (by kernel_rfl))).cast (Mq (qE (.inl hx1)) (by decide)).symm⟩
abbrev AbX (t:Int):AV:= .elt 1 λxi=>[AV.int t].getD (0+xi) .top
abbrev AbW (l:List Sg):AV:= .elt 1 λxi=>[Bj l].getD (0+xi) .top
theorem sL (l:List Sg) (t:Int) (k:Nat) (hk:k<l.length) (hn:l.length<=1000000):AF Tryz.prog 64 [.int (k:Int),AbX t,AbW l] (.bool (decide (t<=(l.getD k Sg.none).t))):=by
 refine Dl ⟨[(0,.int (k:Int)),(1,.elt 1 (λxi=>[.int t].getD (0+xi) .top)),(2,.elt 1 (λxi=>[Bj l].getD (0+xi) .top))],[],0,12⟩ func64 rfl 12 ntmps64 (by kernel_rfl) (by kernel_rfl) λB D0 hA0=>?_
 refine Bu 1 [0,1,2] ?_
 refine Dk [(3,.elt 6 (λq=>AV.cell (Bs ((l).getD k Sg.none)) q),.none),(6,.bool (decide (t<=((l).getD k Sg.none).t)),.none)] [4] 0 ⟨?_,?_,trivial⟩ ?_
 exact Bn (Bk 41 (.tmp 6) (.tmp 7) underlying41 6 ((l).length) k (λi0=>Bs ((l).getD i0 Sg.none)) (k:Int) sizeOf67)
 exact uZ
 refine Be ?_
 exact⟨.inl rfl,(Bv results64 (Ak (x:= .bool (decide (t<=((l).getD k Sg.none).t))) (by kernel_rfl) (by kernel_rfl))).cast (by kernel_rfl)⟩
theorem sP (l:List Sg) (t:Int) (hn:l.length<=1000000) (i0:Nat) (hi0:i0<=l.length) (h1:∀j,j<i0->(l.getD j Sg.none).t<t) (h2:∀j,i0<=j->j<l.length->t<=(l.getD j Sg.none).t):AF Tryz.prog 63 [.int (l.length:Int),.fn 64 [AbX t,AbW l]] (.int ((i0:Nat):Int)):=by
 refine Dl ⟨[(0,.int (l.length:Int)),(1,.fn 64 [.elt 1 (λxi=>[.int t].getD (0+xi) .top),.elt 1 (λxi=>[Bj l].getD (0+xi) .top)])],[],0,26⟩ func63 rfl 26 ntmps63 (by kernel_rfl) (by kernel_rfl) λB D0 hA0=>?_
 refine Bu 1 [0,1] ?_
 refine Bu 3 [1,5,6] ?_
 refine Al (Bb ?_)
 refine Cn (λm s=>∃i j,m=j-i/\(i<=i0/\i0<=j/\j<=l.length)/\s=⟨[(1,.fn 64 [.elt 1 (λxi=>[.int t].getD (0+xi) .top),.elt 1 (λxi=>[Bj l].getD (0+xi) .top)]),(5,.int (i:Int)),(6,.int (j:Int))],[],0,26⟩) (l.length-0) ⟨0,l.length,rfl,⟨Nat.zero_le _,hi0,Nat.le_refl _⟩,(by kernel_rfl)⟩ ?_
 rintro _ _ ⟨i,j,rfl,hF,rfl⟩
 refine Al (Ab ?_)
 refine Ae 2 ?_
 refine qb (decide ((i:Int)<(j:Int))) ?_
 refine As [1,5,6,11] ?_
 refine Ao (decide ((i:Int)<(j:Int))) (λhx1=>?_) (λhx1=>?_)
 have hx1d:=of_decide_eq_true hx1
 refine qT hx1 ?_
 refine Aw (Bb ?_)
 refine Ab (Ae 2 ?_)
 refine qw ((i:Int)+(j:Int)) ((i+j:Nat):Int) ?_
 refine Bl (.lit (.int .u64 ((i+j:Nat):Int))) (Dx (v:= .int .u64 (IntKind.wrap .u64 ((i+j:Nat):Int))) (v':= .int .u64 ((i+j:Nat):Int)) (congrArg (Value.int .u64) (IntWalk.u64_in _ (by omega))) _) ?_
 refine Bl (.lit (.int .u64 (((i+j)/2:Nat):Int))) (Dx (v:= .int .u64 (Int.fdiv ((i+j:Nat):Int) (2^1))) (v':= .int .u64 (((i+j)/2:Nat):Int)) (congrArg (Value.int .u64) (by rw[Int.fdiv_eq_ediv_of_nonneg _ (by decide)];omega)) _) ?_
 refine Bl (.int (((i+j)/2:Nat):Int)) (Dx (v:= .int .i64 (IntKind.wrap .i64 (((i+j)/2:Nat):Int))) (v':= .int .i64 (((i+j)/2:Nat):Int)) (congrArg (Value.int .i64) (IntWalk.i64_in _ (by omega))) _) ?_
 refine Ae 1 ?_
 refine As [1,5,6,7] ?_
 refine Ab (Ae 2 ?_)
 refine Bl (.bool (decide (t<=(l.getD ((i+j)/2) Sg.none).t))) (Aab (.tmp 18) 64 #[.tmp 19] #[3] [.elt 1 (λxi=>[.int t].getD (0+xi) .top),.elt 1 (λxi=>[Bj l].getD (0+xi) .top)] [.int (((i+j)/2:Nat):Int),.elt 1 (λxi=>[.int t].getD (0+xi) .top),.elt 1 (λxi=>[Bj l].getD (0+xi) .top)] (.bool (decide (t<=(l.getD ((i+j)/2) Sg.none).t))) (sL l t ((i+j)/2) (by omega) hn)) ?_
 refine qb (!decide (t<=(l.getD ((i+j)/2) Sg.none).t)) ?_
 refine As [1,5,6,7,21] ?_
 refine Ao (decide (t<=(l.getD ((i+j)/2) Sg.none).t)) (λhx2=>?_) (λhx2=>?_)
 have hx2d:=of_decide_eq_true hx2
 have hq:i0<=(i+j)/2:=Nat.le_of_not_lt λhz=>by have g:=h1 _ hz;omega
 refine qF (nt hx2) ?_
 refine Bi (Ae 2 ?_)
 refine Bx [1,5,6] ?_
 exact⟨_,(by omega:((i+j)/2)-i<j-i),i,(i+j)/2,rfl,⟨by omega,by omega,by omega⟩,(by kernel_rfl)⟩
 have hx2d:=of_decide_eq_false hx2
 have hq:(i+j)/2<i0:=Nat.lt_of_not_le λhz=>by have g:=h2 _ hz (by omega);omega
 refine qT (nf hx2) ?_
 refine Bi (Ae 1 ?_)
 refine qw ((((i+j)/2:Nat):Int)+1) (((i+j)/2+1:Nat):Int) ?_
 refine Ae 1 ?_
 refine Bx [1,5,6] ?_
 exact⟨_,(by omega:j-((i+j)/2+1)<j-i),(i+j)/2+1,j,rfl,⟨by omega,by omega,by omega⟩,(by kernel_rfl)⟩
 have hx1d:=of_decide_eq_false hx1
 refine qF hx1 ?_
 refine Co (Bu 2 [4] ?_)
 refine Be ?_
 exact⟨.inl rfl,(Bv results63 (Ak (x:= .int (i:Int)) (by kernel_rfl) (by kernel_rfl))).cast (congrArg (λq:Nat=>AV.int (q:Int)) (show i=i0 by omega))⟩
theorem fD (l:List Sg) (hl:Cm l) (ho:Dz l):AF Tryz.prog 42 [Bj l] (.lit (.tuple #[.int .i64 ((l.getD 0 Sg.none).f),.int .i64 ((l.getD (l.length-1) Sg.none).t),.int .i64 0])):=by
 have hln:=hl.1
 have hlo:=ho.2
 refine Dl ⟨[(0,Bj l)],[],0,19⟩ func42 rfl 19 ntmps42 (by kernel_rfl) (by kernel_rfl) λB D0 hA0=>?_
 refine Bu 3 [0] ?_
 refine Al (Ab ?_)
 refine Ae 1 ?_
 refine Fg (Oz l hl) ?_
 refine qb (!bP (Dz l)) ?_
 refine As [0,7] ?_
 refine qF (b:=(!bP (Dz l))) (by rw[(Dq ho)];rfl) ?_
 refine Aw ?_
 refine Dk [(1,.elt 6 (λq=>AV.cell (Bs ((l).getD 0 Sg.none)) q),.none),(6,.int ((l).length:Int),.none),(7,.int (((l).length-1:Nat):Int),.none),(8,.elt 6 (λq=>AV.cell (Bs ((l).getD ((l).length-1) Sg.none)) q),.none)] [2,3,4] 0 ⟨?_,?_,?_,?_,trivial⟩ ?_
 exact Bn (Bk 41 (.tmp 8) (.const (.int .i64 0)) underlying41 6 ((l).length) 0 (λi0=>Bs ((l).getD i0 Sg.none)) 0 sizeOf67)
 exact Bn (Dg (.tmp 13) 41 #[41] underlying41 ((l).length) (.inl ⟨6,(λi0=>Bs ((l).getD i0 Sg.none)),by kernel_rfl⟩))
 exact Yk (((l).length:Int)-1)
 exact Bn (Bk 41 (.tmp 12) (.tmp 15) underlying41 6 ((l).length) ((l).length-1) (λi0=>Bs ((l).getD i0 Sg.none)) (((l).length-1:Nat):Int) sizeOf67)
 refine Be ?_
 exact⟨.inl rfl,(Ac7 results42 (Ak (x:= .int (((l).getD 0 Sg.none).f)) (by kernel_rfl) (by kernel_rfl)) (Ak (x:= .int (((l).getD ((l).length-1) Sg.none).t)) (by kernel_rfl) (by kernel_rfl)) (Ak (x:= .int 0) (by kernel_rfl) (by kernel_rfl))).cast (by kernel_rfl)⟩
abbrev Au (l:List Sg) (t:Int) (i0:Nat):PL:=(Cc (l.getD i0 Sg.none) (t-(l.getD i0 Sg.none).f) ((l.getD i0 Sg.none).t-(l.getD i0 Sg.none).f))
theorem wK (l:List Sg) (hl:Cm l) (ho:Dz l) (t:Int) (ht:(l.getD 0 Sg.none).f<=t/\t<=(l.getD (l.length-1) Sg.none).t) (i0:Nat) (hi0:i0<l.length) (h1:∀j,j<i0->(l.getD j Sg.none).t<t) (h2:∀j,i0<=j->j<l.length->t<=(l.getD j Sg.none).t) (h3:(l.getD i0 Sg.none).f<=t):AF Tryz.prog 46 [Bj l,.int t] (.lit (.tuple #[.agg #[.bool (decide ((Au l t i0).x<0)),.string (Cw ((Au l t i0).x).natAbs),.bool (decide ((Au l t i0).y<0)),.string (Cw ((Au l t i0).y).natAbs),.bool (decide ((Au l t i0).z<0)),.string (Cw ((Au l t i0).z).natAbs),.bool (decide ((Au l t i0).o<0)),.string (Cw ((Au l t i0).o).natAbs)],.int .i64 0])):=by
 have hln:=hl.1
 have hs:=(ho.1 i0 hi0).1
 have hh:=hs.1
 unfold Iu at hh
 have h4:=h2 i0 (Nat.le_refl _) hi0
 refine Dl ⟨[(0,Bj l),(1,.int t)],[],0,49⟩ func46 rfl 49 ntmps46 (by kernel_rfl) (by kernel_rfl) λB D0 hA0=>?_
 refine Bu 4 [2,3,4] ?_
 refine Ab (Ae 1 ?_)
 refine Fg (fD l hl ho) ?_
 refine Ae 1 ?_
 refine qi ((l.getD 0 Sg.none).f) ?_
 refine qi ((l.getD (l.length-1) Sg.none).t) ?_
 refine qi 0 ?_
 refine Ae 3 ?_
 refine As [2,3,4,6,7,8] ?_
 refine Al (Bb ?_)
 refine Ab (Ae 1 ?_)
 refine qb false ?_
 refine Ae 1 ?_
 refine As [2,3,4,6,7,8,16] ?_
 refine Bq (Ab ?_)
 refine Ae 2 ?_
 refine Bl (.bool false) (Dx (v:= .bool (decide (t<(l.getD 0 Sg.none).f))) (v':= .bool false) (congrArg Value.bool (decide_eq_false (by omega))) _) ?_
 refine Ae 3 ?_
 refine Ei (.bool false) .none (Dx (v:= .bool (decide ((l.getD (l.length-1) Sg.none).t<t))) (v':= .bool false) (congrArg Value.bool (decide_eq_false (by omega))) _) ?_
 refine Ae 2 ?_
 refine As [2,3,4,21] ?_
 refine Bq (Aw ?_)
 refine eW 0 41 [Bj l] _ ?_
 refine eW 1 3 [.int t] _ ?_
 refine Ee [2,3,4,21] ⟨[(2,.elt 1 (λxi=>[Bj l].getD (0+xi) .top)),(3,.elt 1 (λxi=>[.int t].getD (0+xi) .top)),(4,.ptr 2 0),(21,.bool false)],[(2,.box 98 [.bool false,.lit (.string ⟨#[]⟩),.bool false,.lit (.string ⟨#[]⟩),.bool false,.lit (.string ⟨#[]⟩),.bool false,.lit (.string ⟨#[]⟩)])],3,49⟩ ?_
 refine Dk [(2,.int ((l).length:Int),.none),(3,.fn 64 [.elt 1 (λxi=>[.int t].getD (0+xi) .top),.elt 1 (λxi=>[Bj l].getD (0+xi) .top)],.none),(4,.int ((i0:Nat):Int),.none),(5,.elt 6 (λq=>AV.cell (Bs ((l).getD i0 Sg.none)) q),.none)] [3,4,9] 4 ⟨?_,?_,?_,?_,trivial⟩ ?_
 exact Bn (Dg (.tmp 32) 41 #[41] underlying41 ((l).length) (.inl ⟨6,(λi0=>Bs ((l).getD i0 Sg.none)),by kernel_rfl⟩))
 exact Bn (lT 64 #[.tmp 3,.tmp 2] [.elt 1 (λxi=>[.int t].getD (0+xi) .top),.elt 1 (λxi=>[Bj l].getD (0+xi) .top)])
 exact Oi (sP l t hln i0 (by omega) h1 h2)
 exact Bn (Bk 41 (.tmp 31) (.tmp 35) underlying41 6 ((l).length) i0 (λi0=>Bs ((l).getD i0 Sg.none)) ((i0:Nat):Int) sizeOf67)
 refine Ab (Ae 4 ?_)
 refine qv (t-((l).getD i0 Sg.none).f) ?_
 refine Ae 4 ?_
 refine qv (((l).getD i0 Sg.none).t-((l).getD i0 Sg.none).f) ?_
 refine Bl (.lit (.agg #[.bool (decide ((Au l t i0).x<0)),.string (Cw ((Au l t i0).x).natAbs),.bool (decide ((Au l t i0).y<0)),.string (Cw ((Au l t i0).y).natAbs),.bool (decide ((Au l t i0).z<0)),.string (Cw ((Au l t i0).z).natAbs),.bool (decide ((Au l t i0).o<0)),.string (Cw ((Au l t i0).o).natAbs)])) (Br 65 #[.tmp 38,.tmp 42,.tmp 47] #[67,3,3] [Bs ((l).getD i0 Sg.none),.int (t-((l).getD i0 Sg.none).f),.int (((l).getD i0 Sg.none).t-((l).getD i0 Sg.none).f)] (.lit (.agg #[.bool (decide ((Au l t i0).x<0)),.string (Cw ((Au l t i0).x).natAbs),.bool (decide ((Au l t i0).y<0)),.string (Cw ((Au l t i0).y).natAbs),.bool (decide ((Au l t i0).z<0)),.string (Cw ((Au l t i0).z).natAbs),.bool (decide ((Au l t i0).o<0)),.string (Cw ((Au l t i0).o).natAbs)])) (Tv _ _ _ (hl.2 i0) hs ⟨by omega,by omega⟩ ⟨by omega,by omega⟩ (by omega))) ?_
 refine Ae 2 ?_
 refine As [4,5] ?_
 refine Be ?_
 exact⟨.inl rfl,(Cv results46 (Gs (x:= .lit (.agg #[.bool (decide ((Au l t i0).x<0)),.string (Cw ((Au l t i0).x).natAbs),.bool (decide ((Au l t i0).y<0)),.string (Cw ((Au l t i0).y).natAbs),.bool (decide ((Au l t i0).z<0)),.string (Cw ((Au l t i0).z).natAbs),.bool (decide ((Au l t i0).o<0)),.string (Cw ((Au l t i0).o).natAbs)])) 2 isAgg98 8 sizeOf98 0 [.bool (decide ((Au l t i0).x<0)),.lit (.string (Cw ((Au l t i0).x).natAbs)),.bool (decide ((Au l t i0).y<0)),.lit (.string (Cw ((Au l t i0).y).natAbs)),.bool (decide ((Au l t i0).z<0)),.lit (.string (Cw ((Au l t i0).z).natAbs)),.bool (decide ((Au l t i0).o<0)),.lit (.string (Cw ((Au l t i0).o).natAbs))] (by kernel_rfl) 98 (by kernel_rfl) (Nat.le_of_ble_eq_true (by kernel_rfl)) (by kernel_rfl) (by kernel_rfl)) (Ak (x:= .int 0) (by kernel_rfl) (by kernel_rfl))).cast (by kernel_rfl)⟩
end Go.Proofs.YtkcnbaeoahoglaaGreat
namespace Go.Proofs.YtkcnbaeoahoglaaGreat
open Tryz
open Go.RowKit
theorem Ju (x:Int) (hx:Gh x):AF Tryz.prog 66 [WA x] (.bool true):=Jh (vs:=[_]) λw=>Jq x w hx
theorem Us (x:Int) (hx:Gh x):AF Tryz.prog 115 [WA x] (.int x.sign):=Jh (vs:=[_]) λw=>vY x w hx
theorem AaD (x:Int) (hx:Gh x):AF Tryz.prog 131 [WA x] (.int (bitLen x.natAbs:Int)):=Jh (vs:=[_]) λw=>Aa0 x w hx
theorem AaC (x y:Int) (hx:Gh x) (hy:Gh y) (hz:Gh (x+y)):AF Tryz.prog 69 [WA x,WA y] (.lit (.tuple #[Ai (x+y),.int .i64 0])):=Jh (vs:=[_,_]) λw=>mL x y w hx hy hz
theorem AaE (x y:Int) (hx:Gh x) (hy:Gh y) (hz:Gh (x*y)):AF Tryz.prog 100 [WA x,WA y] (.lit (.tuple #[Ai (x*y),.int .i64 0])):=Jh (vs:=[_,_]) λw=>mO x y w hx hy hz
def Du (c:Nat->Int):Nat->Nat
 |0=>0
 |n+1=>if c n=0 then Du c n else n+1
abbrev Bf (n:Nat) (c:Nat->Int):AV:= .sl 2 n λi=>WA (c i)
abbrev zY (n:Nat) (c:Nat->Int):AV:= .slc 2 n λi=>WA (c i)
theorem Ii (c:Nat->Int):∀n,Du c n<=n
 |0=>Nat.le_refl _
 |n+1=>by
  unfold Du
  split
  exact Nat.le_succ_of_le (Ii c n)
  exact Nat.le_refl _
theorem Jp (c:Nat->Int):∀n,Du c n=0\/c (Du c n-1)≠0
 |0=> .inl rfl
 |n+1=>by
  unfold Du
  split
  exact Jp c n
  rename_i h;exact .inr h
theorem Sz {c:Nat->Int} {n:Nat} (h:n=0\/c (n-1)≠0):Du c n=n:=by
 cases n with
 |zero=>rfl
 |succ n=>
  unfold Du
  rcases h with h|h
  cases h
  exact if_neg h
theorem Xj {x:Int}:x.sign=0↔x=0:=Int.sign_eq_zero_iff_zero
theorem pH {c:Nat->Int} {q:Nat} (hq:0<q) (h:(c (q-1)).sign=0):Du c q=Du c (q-1):=by
 obtain⟨k,rfl⟩:∃k,q=k+1:=⟨q-1,by omega⟩
 rw[Nat.add_sub_cancel] at h ⊢
 rw[Du,if_pos (Xj.1 h)]
theorem bW {c:Nat->Int} {q n:Nat} (h0:Du c q=Du c n) (h:q=0\/(c (q-1)).sign≠0):q=Du c n:=by
 rw[<-h0]
 exact(Sz (h.imp id λh e=>h (Xj.2 e))).symm
theorem fE (n:Nat) (c:Nat->Int) (hn:n<=1000000) (hc:∀i,i<n->Gh (c i)):AF Tryz.prog 113 [zY n c] (Bf (Du c n) c):=by
 refine Dl ⟨[(0,zY n c)],[],0,22⟩ func113 rfl 22 ntmps113 (by kernel_rfl) (by kernel_rfl) λB D0 hA0=>?_
 refine Bu 1 [0] ?_
 refine Al (Bb ?_)
 refine Cn (λm s=>∃m1,m=m1+1/\(m1<=n/\Du c m1=Du c n)/\s=⟨[(0,zY m1 c)],[],0,22⟩) (n+1) ⟨n,rfl,⟨Nat.le_refl _,rfl⟩,(by kernel_rfl)⟩ ?_
 rintro _ _ ⟨m1,rfl,hF,rfl⟩
 obtain⟨hF1,hF2⟩:=hF
 refine Al (Ab ?_)
 refine Ae 1 ?_
 refine Bl (.int ((m1:Nat):Int)) (Ih (.tmp 3) 141 #[141] underlying141 2 m1 (λi0=> .lit (Ai (c i0)))) ?_
 refine qb (decide ((0:Int)<((m1:Nat):Int))) ?_
 refine Ae 1 ?_
 refine Ao (decide ((0:Int)<((m1:Nat):Int))) (λhx1=>?_) (λhx1=>?_)
 have hx1d:=of_decide_eq_true hx1
 refine Bg 6 _ true hx1 ?_
 refine Ae 2 ?_
 refine Ei (.int ((m1:Nat):Int)) .none (Ih (.tmp 8) 141 #[141] underlying141 2 m1 (λi0=> .lit (Ai (c i0)))) ?_
 refine Ei (.int ((m1-1:Nat):Int)) .none (Dx (v:= .int .i64 (IntKind.wrap .i64 (((m1:Nat):Int)-1))) (v':= .int .i64 ((m1-1:Nat):Int)) (congrArg (Value.int .i64) ((IntWalk.i64_in _ (by omega)).trans (by omega))) _) ?_
 refine Ei (.elt 2 (λq=>AV.cell (.lit (Ai (c (m1-1)))) q)) .none (Fb.wk (Bk 141 (.tmp 7) (.tmp 10) underlying141 2 m1 (m1-1) (λi0=> .lit (Ai (c i0))) ((m1-1:Nat):Int) sizeOf96)) ?_
 refine Ae 1 ?_
 refine Ei (.int ((c (m1-1)).sign)) .none (Br 115 #[.tmp 12] #[96] [.lit (Ai (c (m1-1)))] (.int ((c (m1-1)).sign)) (Us _ (hc _ (by omega)))) ?_
 refine Ga (decide ((c (m1-1)).sign=0)) ?_
 refine Ae 1 ?_
 refine As [0,15] ?_
 refine Ao (decide ((c (m1-1)).sign=0)) (λhx2=>?_) (λhx2=>?_)
 have hx2d:=of_decide_eq_true hx2
 refine qT hx2 ?_
 refine Aw (Bb ?_)
 refine Bi (Ae 2 ?_)
 refine Bl (.int ((m1:Nat):Int)) (Ih (.tmp 17) 141 #[141] underlying141 2 m1 (λi0=> .lit (Ai (c i0)))) ?_
 refine qw (((m1:Nat):Int)-1) ((m1-1:Nat):Int) ?_
 refine Bl (.slc 2 (m1-1) (λi0=> .lit (Ai (c i0)))) (cS 141 (.tmp 16) (.tmp 19) (by kernel_rfl) underlying141 2 m1 sizeOf96 (λi0=> .lit (Ai (c i0))) (by kernel_rfl) (m1-1) ((m1-1:Nat):Int) (by kernel_rfl) (by omega) (by omega)) ?_
 refine Ae 1 ?_
 refine Bx [0] ?_
 exact⟨_,(by omega:m1-1+1<m1+1),m1-1,rfl,⟨by omega,(pH (by omega) hx2d).symm.trans hF2⟩,(by kernel_rfl)⟩
 have hx2d:=of_decide_eq_false hx2
 refine qF hx2 ?_
 refine Co (pR 0 2 m1 (λi0=> .lit (Ai (c i0))) (by kernel_rfl) ?_)
 refine Ee [0,15] ⟨[(0,.sl 2 m1 (λi0=> .lit (Ai (c i0)))),(15,.bool false)],[],0,22⟩ ?_
 refine Bu 2 [2] ?_
 refine Be ?_
 exact⟨.inl rfl,(Bv results113 (Ak (x:= .sl 2 m1 (λi0=> .lit (Ai (c i0)))) (by kernel_rfl) (by kernel_rfl))).cast (congrArg (λz=>Bf z c) (bW hF2 (by omega)))⟩
 have hx1d:=of_decide_eq_false hx1
 refine Bg 6 _ false hx1 ?_
 refine Ae 9 ?_
 refine As [0,15] ?_
 refine Bq (Co ?_)
 refine pR 0 2 m1 (λi0=> .lit (Ai (c i0))) (by kernel_rfl) ?_
 refine Ee [0,15] ⟨[(0,.sl 2 m1 (λi0=> .lit (Ai (c i0)))),(15,.bool false)],[],0,22⟩ ?_
 refine Bu 2 [2] ?_
 refine Be ?_
 exact⟨.inl rfl,(Bv results113 (Ak (x:= .sl 2 m1 (λi0=> .lit (Ai (c i0)))) (by kernel_rfl) (by kernel_rfl))).cast (congrArg (λz=>Bf z c) (bW hF2 (by omega)))⟩
theorem jA (x:Int):AFM Tryz.prog 132 190 [.int .i64 0] [WA x,.int 0] (Ai x):=by
 refine mX ⟨[(0,.ptr 0 0),(1,.lit (Ai x)),(2,.int 0)],[(0,.box 190 [.int 0])],1,17⟩ func132 rfl 17 ntmps132 (by kernel_rfl) (by kernel_rfl) λB D0 hA0=>?_
 refine Bu 2 [0,2,4,6] ?_
 refine Al (Ab ?_)
 refine Ae 4 ?_
 refine qb true ?_
 refine As [0,2,4,6,11] ?_
 refine Ca (Bi ?_)
 refine Ae 5 ?_
 refine Bx [4,6] ?_
 refine Bu 2 [6] ?_
 refine Be ?_
 exact⟨.inl rfl,(Bv results132 (Gs (x:= .lit (Ai x)) 2 isAgg96 2 sizeOf96 0 [.bool (decide (x<0)),.lit (.string (Cw (x).natAbs))] (by kernel_rfl) 96 (by kernel_rfl) (Nat.le_of_ble_eq_true (by kernel_rfl)) (by kernel_rfl) (by kernel_rfl))).cast (by kernel_rfl),(by kernel_rfl)⟩
theorem Uo (x y:Int) (hx:Gh x) (hy:Gh y) (hz:Gh (x*y)):AFM Tryz.prog 117 190 [.int .i64 0] [WA x,WA y] (Ai (x*y)):=by
 refine mX ⟨[(0,.ptr 0 0),(1,.lit (Ai x)),(2,.lit (Ai y))],[(0,.box 190 [.int 0])],1,16⟩ func117 rfl 16 ntmps117 (by kernel_rfl) (by kernel_rfl) λB D0 hA0=>?_
 refine Bu 3 [0,4,5,6] ?_
 refine Dk [(5,.lit (.tuple #[Ai (x*y),.int .i64 0]),.none),(6,.lit (Ai (x*y)),.none),(7,.int 0,.none),(8,.lit (Ai (x*y)),(.set 0 (.box 190 [.int 0])))] [6] 4 ⟨?_,?_,?_,?_,trivial⟩ ?_
 exact Oi (AaE x y hx hy hz)
 exact Bn (Dx (v:=Ai (x*y)) (v':=Ai (x*y)) rfl _)
 exact rW
 exact Bn (Je 132 #[.tmp 9,.tmp 13,.tmp 14] #[188,96,32] (by kernel_rfl) (λ_ _=>by kernel_rfl) 0 190 [.int .i64 0] (by kernel_rfl) [.lit (Ai (x*y)),.int 0] (by kernel_rfl) (by kernel_rfl) (Ai (x*y)) (jA (x*y)))
 refine Be ?_
 exact⟨.inl rfl,(Bv results117 (Gs (x:= .lit (Ai (x*y))) 3 isAgg96 2 sizeOf96 0 [.bool (decide (x*y<0)),.lit (.string (Cw (x*y).natAbs))] (by kernel_rfl) 96 (by kernel_rfl) (Nat.le_of_ble_eq_true (by kernel_rfl)) (by kernel_rfl) (by kernel_rfl))).cast (by kernel_rfl),(by kernel_rfl)⟩
theorem pS (x y:Int) (hx:Gh x) (hy:Gh y) (hz:Gh (x+y)):AFM Tryz.prog 118 190 [.int .i64 0] [WA x,WA y] (Ai (x+y)):=by
 refine mX ⟨[(0,.ptr 0 0),(1,.lit (Ai x)),(2,.lit (Ai y))],[(0,.box 190 [.int 0])],1,16⟩ func118 rfl 16 ntmps118 (by kernel_rfl) (by kernel_rfl) λB D0 hA0=>?_
 refine Bu 3 [0,4,5,6] ?_
 refine Dk [(5,.lit (.tuple #[Ai (x+y),.int .i64 0]),.none),(6,.lit (Ai (x+y)),.none),(7,.int 0,.none),(8,.lit (Ai (x+y)),(.set 0 (.box 190 [.int 0])))] [6] 4 ⟨?_,?_,?_,?_,trivial⟩ ?_
 exact Oi (AaC x y hx hy hz)
 exact Bn (Dx (v:=Ai (x+y)) (v':=Ai (x+y)) rfl _)
 exact rW
 exact Bn (Je 132 #[.tmp 9,.tmp 13,.tmp 14] #[188,96,32] (by kernel_rfl) (λ_ _=>by kernel_rfl) 0 190 [.int .i64 0] (by kernel_rfl) [.lit (Ai (x+y)),.int 0] (by kernel_rfl) (by kernel_rfl) (Ai (x+y)) (jA (x+y)))
 refine Be ?_
 exact⟨.inl rfl,(Bv results118 (Gs (x:= .lit (Ai (x+y))) 3 isAgg96 2 sizeOf96 0 [.bool (decide (x+y<0)),.lit (.string (Cw (x+y).natAbs))] (by kernel_rfl) 96 (by kernel_rfl) (Nat.le_of_ble_eq_true (by kernel_rfl)) (by kernel_rfl) (by kernel_rfl))).cast (by kernel_rfl),(by kernel_rfl)⟩
theorem AcY {c:Nat->Int} {n:Nat} (hl:n=0\/c (n-1)≠0) (h:n≠0):(!decide ((c (n-1)).sign=0))=true:=by
 have h9:¬(c (n-1)).sign=0:=λe=>by
  rcases hl with g|g
  exact h g
  exact g (Xj.1 e)
 rw[decide_eq_false h9];rfl
theorem Oy (n:Nat) (c:Nat->Int) (hn:n<=25) (hc:∀i,i<n->Gh (c i)) (hl:n=0\/c (n-1)≠0):AF Tryz.prog 114 [Bf n c] (.bool true):=by
 refine Dl ⟨[(0,Bf n c)],[],0,33⟩ func114 rfl 33 ntmps114 (by kernel_rfl) (by kernel_rfl) λB D0 hA0=>?_
 refine Bu 1 [0] ?_
 refine Al (Ab ?_)
 refine Ae 1 ?_
 refine Bl (.int (n:Int)) (Dg (.tmp 5) 141 #[141] underlying141 n (.inl ⟨2,(λi0=> .lit (Ai (c i0))),by kernel_rfl⟩)) ?_
 refine Ae 1 ?_
 refine As [0,5,6,7] ?_
 refine Bb (Cn (λm s=>∃i,i<=n/\m=n-i/\True/\s=⟨[(0,Bf n c),(5,Bf n c),(6,.int (n:Int)),(7,.int (i:Int))],[],0,33⟩) n ⟨0,Nat.zero_le _,rfl,trivial,(by kernel_rfl)⟩ ?_)
 rintro _ _ ⟨i,hin,rfl,hFi,rfl⟩
 refine Ab (qb (decide ((i:Int)<(n:Int))) ?_)
 refine As [0,5,6,7,8] ?_
 refine Al ?_
 refine Ao (decide ((i:Int)<(n:Int))) (λhx1=>?_) (λhx1=>?_)
 have hx1d:=of_decide_eq_true hx1
 refine qT hx1 ?_
 refine Aw (Al ?_)
 refine Bb (Ab ?_)
 refine Bl (.elt 2 (λq=>AV.cell (.lit (Ai (c i))) q)) (Bk 141 (.tmp 5) (.tmp 7) underlying141 2 n i (λi0=> .lit (Ai (c i0))) (i:Int) sizeOf96) ?_
 refine Ae 3 ?_
 refine As [0,4,5,6,7] ?_
 refine Ab (Ae 1 ?_)
 refine Bl (.bool true) (Br 66 #[.tmp 11] #[96] [.lit (Ai (c i))] (.bool true) (Ju _ (hc _ (by omega)))) ?_
 refine qb false ?_
 refine As [0,5,6,7,13] ?_
 refine Bq (Aw ?_)
 refine Ee [0,5,6,7,13] ⟨[(0,Bf n c),(5,Bf n c),(6,.int (n:Int)),(7,.int (i:Int)),(13,.bool false)],[(0,.box 96 [.bool (decide (c i<0)),.lit (.string (Cw (c i).natAbs))])],1,33⟩ ?_
 refine Hg [] 0 0 hA0 _ (Av Cx) ?_
 refine Bi (qw ((i:Int)+1) ((i+1:Nat):Int) ?_)
 refine Ae 1 ?_
 refine Bx [0,5,6,7] ?_
 exact⟨_,(by omega:n-(i+1)<n-i),i+1,(by omega),rfl,trivial,(by kernel_rfl)⟩
 have hx1d:=of_decide_eq_false hx1
 refine qF hx1 ?_
 refine Co (Ab ?_)
 refine Ae 1 ?_
 refine Bl (.int (n:Int)) (Dg (.tmp 15) 141 #[141] underlying141 n (.inl ⟨2,(λi0=> .lit (Ai (c i0))),by kernel_rfl⟩)) ?_
 refine qb (decide ((n:Int)<=25)) ?_
 refine Ae 1 ?_
 refine Bg 18 (decide ((n:Int)<=25)) true (decide_eq_true (by omega)) ?_
 refine Ae 1 ?_
 refine Ei (.int (n:Int)) .none (Dg (.tmp 19) 141 #[141] underlying141 n (.inl ⟨2,(λi0=> .lit (Ai (c i0))),by kernel_rfl⟩)) ?_
 refine Ga (decide ((n:Int)=0)) ?_
 refine Ae 1 ?_
 refine Ao (decide ((n:Int)=0)) (λhx2=>?_) (λhx2=>?_)
 have hx2d:=of_decide_eq_true hx2
 refine Bg 22 _ true hx2 ?_
 refine Ae 11 ?_
 refine As [2] ?_
 refine Be ?_
 exact⟨.inl rfl,(Bv results114 (Ak (x:= .bool true) (by kernel_rfl) (by kernel_rfl))).cast (by kernel_rfl)⟩
 have hx2d:=of_decide_eq_false hx2
 refine Bg 22 _ false hx2 ?_
 refine Ae 2 ?_
 refine Ei (.int (n:Int)) .none (Dg (.tmp 24) 141 #[141] underlying141 n (.inl ⟨2,(λi0=> .lit (Ai (c i0))),by kernel_rfl⟩)) ?_
 refine Ei (.int ((n-1:Nat):Int)) .none (Dx (v:= .int .i64 (IntKind.wrap .i64 ((n:Int)-1))) (v':= .int .i64 ((n-1:Nat):Int)) (congrArg (Value.int .i64) ((IntWalk.i64_in _ (by omega)).trans (by omega))) _) ?_
 refine Ei (.elt 2 (λq=>AV.cell (.lit (Ai (c (n-1)))) q)) .none (Bk 141 (.tmp 23) (.tmp 26) underlying141 2 n (n-1) (λi0=> .lit (Ai (c i0))) ((n-1:Nat):Int) sizeOf96) ?_
 refine Ae 1 ?_
 refine Ei (.int ((c (n-1)).sign)) .none (Br 115 #[.tmp 28] #[96] [.lit (Ai (c (n-1)))] (.int ((c (n-1)).sign)) (Us _ (hc _ (by omega)))) ?_
 refine Ga (!decide ((c (n-1)).sign=0)) ?_
 refine Ae 3 ?_
 refine As [2] ?_
 refine Be ?_
 exact⟨.inl rfl,(Bv results114 (Ak (x:= .bool (!decide ((c (n-1)).sign=0))) (by kernel_rfl) (by kernel_rfl))).cast (congrArg AV.bool (AcY hl (by omega)))⟩
def Gb (c:Nat->Int):Nat->Int
 |0=>0
 |n+1=>max (Gb c n) (bitLen (c n).natAbs:Int)
theorem mD {c:Nat->Int} {k:Nat}:∀n,(∀i,i<n->bitLen (c i).natAbs<=k)->0<=Gb c n/\Gb c n<=(k:Int)
 |0,_=>⟨Int.le_refl _,by show (0:Int)<=_;omega⟩
 |n+1,h=>by
  have h1:=mD n λi hi=>h i (by omega)
  have h2:=h n (Nat.lt_succ_self n)
  unfold Gb
  omega
theorem pX (n:Nat) (c:Nat->Int) (hn:n<=1000000) (hc:∀i,i<n->Gh (c i)):AF Tryz.prog 116 [Bf n c] (.int (Gb c n)):=by
 refine Dl ⟨[(0,Bf n c)],[],0,18⟩ func116 rfl 18 ntmps116 (by kernel_rfl) (by kernel_rfl) λB D0 hA0=>?_
 refine Bu 1 [0] ?_
 refine Bu 1 [0,3] ?_
 refine Al (Ab ?_)
 refine Ae 1 ?_
 refine Bl (.int (n:Int)) (Dg (.tmp 6) 140 #[140] underlying140 n (.inl ⟨2,(λi0=> .lit (Ai (c i0))),by kernel_rfl⟩)) ?_
 refine Ae 1 ?_
 refine As [3,6,7,8] ?_
 refine Bb (Cn (λm s=>∃i,i<=n/\m=n-i/\True/\s=⟨[(3,.int (Gb c i)),(6,Bf n c),(7,.int (n:Int)),(8,.int (i:Int))],[],0,18⟩) n ⟨0,Nat.zero_le _,rfl,trivial,(by kernel_rfl)⟩ ?_)
 rintro _ _ ⟨i,hin,rfl,hFi,rfl⟩
 refine Ab (qb (decide ((i:Int)<(n:Int))) ?_)
 refine As [3,6,7,8,9] ?_
 refine Al ?_
 refine Ao (decide ((i:Int)<(n:Int))) (λhx1=>?_) (λhx1=>?_)
 have hx1d:=of_decide_eq_true hx1
 refine qT hx1 ?_
 refine Aw (Al ?_)
 refine Bb (Ab ?_)
 refine Bl (.elt 2 (λq=>AV.cell (.lit (Ai (c i))) q)) (Bk 140 (.tmp 6) (.tmp 8) underlying140 2 n i (λi0=> .lit (Ai (c i0))) (i:Int) sizeOf96) ?_
 refine Ae 3 ?_
 refine As [3,5,6,7,8] ?_
 refine Bi (Ae 2 ?_)
 refine Bl (.int (bitLen (c i).natAbs:Int)) (Br 131 #[.tmp 13] #[96] [.lit (Ai (c i))] (.int (bitLen (c i).natAbs:Int)) (AaD _ (hc _ (by omega)))) ?_
 refine Bl (.int (max (Gb c i) (bitLen (c i).natAbs:Int))) (Vs (.tmp 12) (.tmp 14) #[3,3] (by kernel_rfl) (Gb c i) (bitLen (c i).natAbs:Int) (by kernel_rfl) (by kernel_rfl)) ?_
 refine Ae 1 ?_
 refine Bx [3,6,7,8] ?_
 refine Ee [3,6,7,8] ⟨[(3,.int (max (Gb c i) (bitLen (c i).natAbs:Int))),(6,Bf n c),(7,.int (n:Int)),(8,.int (i:Int))],[(0,.box 96 [.bool (decide (c i<0)),.lit (.string (Cw (c i).natAbs))])],1,18⟩ ?_
 refine Hg [] 0 0 hA0 _ (Av Cx) ?_
 refine Bi (qw ((i:Int)+1) ((i+1:Nat):Int) ?_)
 refine Ae 1 ?_
 refine Bx [3,6,7,8] ?_
 exact⟨_,(by omega:n-(i+1)<n-i),i+1,(by omega),rfl,trivial,(by kernel_rfl)⟩
 have hx1d:=of_decide_eq_false hx1
 refine qF hx1 ?_
 refine Co (Bu 2 [2] ?_)
 refine Be ?_
 exact⟨.inl rfl,(Bv results116 (Ak (x:= .int (Gb c i)) (by kernel_rfl) (by kernel_rfl))).cast (congrArg (λz=>AV.int (Gb c z)) (show _=n by omega))⟩
end Go.Proofs.YtkcnbaeoahoglaaGreat