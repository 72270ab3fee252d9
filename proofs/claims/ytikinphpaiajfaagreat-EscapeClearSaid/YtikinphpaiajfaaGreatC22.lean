/- Part 22 of the proof of EC.row_holds, joined by program: no condition beyond the row's own. -/
import Derived.Test.YtikinphpaiajfaaGreatC21
set_option maxRecDepth 100000
set_option maxHeartbeats 40000000
namespace Go.Proofs.YtikinphpaiajfaaGreat
open Go.Proofs.Tryz
open Go.RowKit
variable {B:Nat} {D0:Bc} {o:Oper} {ev:Operand->AV} {pre:Nat->Option Bo}
theorem Uf (t t':TypeId) (x y:Operand) (ho:o.op= .binOp .eql t x y t') (vs us:Array Value) (hx:ev x= .lit (.agg vs)) (hy:ev y= .lit (.agg us)) (hg:Tryz.prog.eqGuardType Tryz.prog.depth t=false) (b:Bool) (heq:∀w,(Op.equal t (.agg vs) (.agg us)).run Tryz.prog w= .ok b w):Ec Tryz.prog B D0 o ev pre (.bool b) .none:=by
 refine Cb (.inl rfl) λE a c _ _ hv=>⟨_,?_,.lit _ _⟩
 have h1:=hv x (by simp[ho,Op.operands])
 have h2:=hv y (by simp[ho,Op.operands])
 rw[hx] at h1
 rw[hy] at h2
 simp[execOp,ho,h1.lit_inv,h2.lit_inv,eqGuard,hg,binOp,heq]
theorem Xe (t t':TypeId) (x y:Operand) (ho:o.op= .binOp .neq t x y t') (vs us:Array Value) (hx:ev x= .lit (.agg vs)) (hy:ev y= .lit (.agg us)) (hg:Tryz.prog.eqGuardType Tryz.prog.depth t=false) (b:Bool) (heq:∀w,(Op.equal t (.agg vs) (.agg us)).run Tryz.prog w= .ok b w):Ec Tryz.prog B D0 o ev pre (.bool (!b)) .none:=by
 refine Cb (.inl rfl) λE a c _ _ hv=>⟨_,?_,.lit _ _⟩
 have h1:=hv x (by simp[ho,Op.operands])
 have h2:=hv y (by simp[ho,Op.operands])
 rw[hx] at h1
 rw[hy] at h2
 simp[execOp,ho,h1.lit_inv,h2.lit_inv,eqGuard,hg,binOp,heq]
theorem Lc {b b':Bool} (h:Ec Tryz.prog B D0 o ev pre (.bool b) .none) (e:b=b'):Ec Tryz.prog B D0 o ev pre (.bool b') .none:=e▸h
theorem yH (b b':Bool) (s s':ByteArray) (w:World) (d:Nat):(Op.equalIn (d+2) 94 (.agg #[.bool b,.string s]) (.agg #[.bool b',.string s'])).run Tryz.prog w= .ok ((b==b')&&(s==s')) w:=by
 have h91:=Tryz.runUnderlying94
 have ha4:=isAgg4
 unfold Op.equalIn
 simp[h91,part,ha4,Op.equalIn]
 by_cases h1:b=b'
 subst h1
 cases hs:(s==s')<;>simp
 simp[h1]
theorem eqW (x y:Int) (w:World) (d:Nat):(Op.equalIn (d+2) 94 (Ar x) (Ar y)).run Tryz.prog w= .ok (decide (x=y)) w:=by
 unfold Ar
 rw[yH]
 congr 1
 rw[beq_toListBytes]
 by_cases h:x=y
 subst h;simp
 rw[decide_eq_false h]
 cases h1:((Dd x.natAbs).toList==(Dd y.natAbs).toList) with
 |false=>simp
 |true=>
  have h3:x.natAbs=y.natAbs:=nU (by simpa using h1)
  have h4:¬(decide (x<0)=decide (y<0)):=λe=>by
   have:x<0↔y<0:=by simpa using e
   apply h
   omega
  simpa using h4
theorem AgC (p q:PL) (w:World):(Op.equal 96 (lL p).val (lL q).val).run Tryz.prog w= .ok (decide (p=q)) w:=by
 have e:∀(x y:Int) (w:World),(Op.equalIn 9999 94 (Ar x) (Ar y)).run Tryz.prog w= .ok (decide (x=y)) w:=λx y w=>eqW x y w 9997
 have h93:=Tryz.runUnderlying96
 have h91:=isAgg94
 have hs:=sizeOf94
 have hin:Tryz.prog.stoodInHeld 96=false:=by kernel_rfl
 unfold Op.equal
 rw[show Op.maxDepth=9999+1 from rfl]
 unfold Op.equalIn
 simp only[AV.val]
 unfold Ar at e
 simp[h93,part,h91,hs,e,hin]
 obtain⟨x,y,z,u⟩:=p
 obtain⟨x',y',z',u'⟩:=q
 simp only[PL.mk.injEq]
 by_cases h1:x=x'<;>by_cases h2:y=y'<;>by_cases h3:z=z'<;>by_cases h4:u=u'<;>simp[h1,h2,h3,h4]
theorem Ss (x y z x' y' z':Int) (w:World):(Op.equal 62 (.agg #[.int .i64 x,.int .i64 y,.int .i64 z]) (.agg #[.int .i64 x',.int .i64 y',.int .i64 z'])).run Tryz.prog w= .ok (decide (x=x'/\y=y'/\z=z')) w:=by
 have h55:=Tryz.runUnderlying62
 have h3:=Tryz.runUnderlying3
 have ha:=isAgg3
 have hin:Tryz.prog.stoodInHeld 62=false:=by kernel_rfl
 unfold Op.equal
 rw[show Op.maxDepth=9998+1+1 from rfl]
 unfold Op.equalIn
 simp[h55,part,ha,hin]
 unfold Op.equalIn
 simp[h3]
 by_cases h1:x=x'<;>by_cases h2:y=y'<;>by_cases h3:z=z'<;>simp[h1,h2,h3]
theorem kB {E:Bc} {l:List Int} {v:Value} (h:VR E (Bn l) v):∃A c,v= .slice A l.length c/\Sf E.w v l:=by
 obtain⟨n,hn⟩:∃n,l.length=n:=⟨_,rfl⟩
 unfold Bn at h
 rw[hn] at h ⊢
 cases h with
 |sl0 _ _ _ A c=>exact⟨A,c,rfl,.inl ⟨A,c,rfl,List.eq_nil_of_length_eq_zero hn⟩⟩
 |sl _ _ _ _ b q c us hn0 hD hc hr=>
  refine⟨_,c,rfl,.inr ⟨b,q,c,by rw[hn],λi hi=>?_⟩⟩
  have h1:=hc i 0 ω ω
  have h2:=hr i 0 ω ω
  have h3:us i 0= .int .i64 (l.getD i 0):=h2.lit_inv
  rw[<-h3];exact h1
theorem Sc (s:Sg) (hs:bS s):AF Tryz.prog 84 [Ef s] (.bool (decide (Jb s))):=by
 intro E us hD hn hv
 have h0:=hv 0 (by simp)
 obtain⟨u,rfl⟩:∃u,us=#[u]:=⟨us.getD 0 undef,by
  apply Array.ext
  simpa using hn
  intro i h1 h2
  have:i=0:=by simp at hn;omega
  subst this
  simp[h1]⟩
 simp at h0
 cases h0 with
 |agg _ _ vs hsz hr=>
  have g:=VR.tops hr
  have l0:vs.getD 0 undef= .int .i64 s.f:=(g 0).lit_inv
  have l1:vs.getD 1 undef= .int .i64 s.t:=(g 1).lit_inv
  have l2:vs.getD 2 undef= .int .i64 s.o:=(g 2).lit_inv
  obtain⟨A3,c3,e3,k3⟩:=kB (l:=s.x) (g 3)
  obtain⟨A4,c4,e4,k4⟩:=kB (l:=s.y) (g 4)
  obtain⟨A5,c5,e5,k5⟩:=kB (l:=s.z) (g 5)
  have hvs:vs=#[.int .i64 s.f,.int .i64 s.t,.int .i64 s.o,.slice A3 s.x.length c3,.slice A4 s.y.length c4,.slice A5 s.z.length c5]:=by
   apply Array.ext
   simpa using hsz
   intro i h1 h2
   have e:vs[i]=vs.getD i undef:=by simp[h1]
   rw[e]
   simp at h2
   match i,h2 with
   |0,_=>exact l0
   |1,_=>exact l1
   |2,_=>exact l2
   |3,_=>exact e3
   |4,_=>exact e4
   |5,_=>exact e5
  subst hvs
  rw[e3] at k3
  rw[e4] at k4
  rw[e5] at k5
  refine(lT s A3 A4 A5 c3 c4 c5 E.w k3 k4 k5 (λk i=>?_)).mono ?_
  match k with
  |0=>exact hs.x i
  |1=>exact hs.y i
  |k+2=>exact hs.z i
  rintro e w' ⟨rfl,hb⟩
  exact⟨_,E.D,rfl,.lit _ _,hb,λ_ h=>h,λ_ h=> .inl h,λb hb'=>Nat.lt_of_lt_of_le (hD b hb') hb.size⟩
end Go.Proofs.YtikinphpaiajfaaGreat
namespace Go.Proofs.YtikinphpaiajfaaGreat
open Go.Proofs.Tryz
open Go.RowKit
theorem iJ (l:List Int) {i:Nat} (h:i<l.length):(Di l).getD i undef= .int .i64 (l.getD i 0):=by
 rw[List.getD_eq_getElem?_getD,Wu l i h,List.getD_eq_getElem?_getD,List.getElem?_eq_getElem h];rfl
theorem aQ {w:World} {D:Nat->Prop} {l:List Int} {v:Value} (h:Cy w D 1 v l.length (Di l)) {E:Bc} (hw:E.w=w) (hD:∀b,D b->E.D b):VR E (Bn l) v:=
 Ok h hw hD λi j hi hj=>by
  obtain rfl:j=0:=by omega
  rw[Nat.mul_one,Nat.add_zero,iJ l hi]
  exact .lit _ _
theorem AhH {E:Bc} {l:List Int} {v:Value} (h:VR E (Bn l) v):Cy E.w E.D 1 v l.length (Di l):=
 bA h (Di l) (by rw[pD,Nat.mul_one]) λi j hi hj=>by
  obtain rfl:j=0:=by omega
  rw[Nat.mul_one,Nat.add_zero,iJ l hi]
  rfl
def Sg.none:Sg:=⟨0,0,0,[],[],[]⟩
abbrev Bq (l:List Sg):AV:= .sl 6 l.length λi=>Ef (l.getD i Sg.none)
theorem Ahp {w:World} {D:Nat->Prop} {l:List Sg} {v:Value} (h:Aij w D v l) {E:Bc} (hw:E.w=w) (hD:∀b,D b->E.D b):VR E (Bq l) v:=by
 obtain⟨cs,h1,h2⟩:=h
 refine Ok h1 hw hD λi j hi hj=>?_
 obtain⟨a,⟨vx,vy,vz,rfl,hx,hy,hz⟩,ha⟩:=h2.at_ hi
 have e:l.getD i Sg.none=l[i]:=by rw[List.getD_eq_getElem?_getD,List.getElem?_eq_getElem hi];rfl
 have g:∀u,[Value.int .i64 l[i].f,.int .i64 l[i].t,.int .i64 l[i].o,vx,vy,vz][j]?=some u->cs.getD (i*6+j) undef=u:=λu hu=>by
  rw[List.getD_eq_getElem?_getD,ha j u hu];rfl
 rw[e]
 match j,hj with
 |0,_=>rw[g _ rfl];exact .lit _ _
 |1,_=>rw[g _ rfl];exact .lit _ _
 |2,_=>rw[g _ rfl];exact .lit _ _
 |3,_=>rw[g _ rfl];exact aQ (E:=E.fz) hx hw hD
 |4,_=>rw[g _ rfl];exact aQ (E:=E.fz) hy hw hD
 |5,_=>rw[g _ rfl];exact aQ (E:=E.fz) hz hw hD
abbrev Bs (v:V3):AV:= .lit (.agg #[.int .i64 v.x,.int .i64 v.y,.int .i64 v.z])
theorem Gb (v:V3):AF Tryz.prog 30 [Bs v] (.bool (Dh 1048576 [v.x,v.y,v.z])):=rS (vs:=[_]) λw=>iU v.x v.y v.z w
theorem vI (x y z:Int) (w:World):
  Calls Tryz.prog 23 #[.agg #[.int .i64 x,.int .i64 y,.int .i64 z]] w λe w'=>e= .returned (.bool (Dh 16777216 [x,y,z]))/\Below w.heap.size w w':=by
 go_enter func23,ntmps23
 go_wp2_with fail
 refine(dE _ ?_ ?_ [x,y,z] _ _ ?_ ?_).mono ?_
 · omega
 · omega
 · simp
 · exact Ce.new1 _ [.int .i64 x,.int .i64 y,.int .i64 z] 3 _ 0 _ 1 3 rfl (by simp) (Nat.zero_le _) (by simp)
 ·
  rintro e w1 ⟨rfl,rfl⟩
  go_wp2_with fail
  go_ret
  exact⟨rfl,((Below.refl _ _).alloc (Nat.le_refl _) _).alloc (by simp) _⟩
theorem Ko (v:V3):AF Tryz.prog 23 [Bs v] (.bool (Dh 16777216 [v.x,v.y,v.z])):=rS (vs:=[_]) λw=>vI v.x v.y v.z w
abbrev Aar (a b:V3) (f t k:Int):AV:= .tup [Bq (if Sv a b f t=true then [Ov a b f t k] else []),.int (if Sv a b f t=true then 0 else 2)]
theorem xB {w w':World} {a b:V3} {f t k:Int} {e:Ending} (h:Gr w a b f t k e w'):∃v,e= .returned v/\Below w.heap.size w w'/\∀E':Bc,E'.w=w'->(∀b,w.heap.size<=b->b<w'.heap.size->E'.D b)->VR E' (Aar a b f t k) v:=by
 unfold Gr at h
 unfold Aar
 split at h
 rename_i hf
 obtain⟨v,rfl,hp,hb⟩:=h
 simp only[hf,if_true]
 exact⟨_,rfl,hb,λE' h1 h2=>AhU (Ahp hp h1 λb hb=>h2 b hb.1 hb.2) (.lit _ _)⟩
 rename_i hf
 simp only[hf]
 obtain⟨rfl,hb⟩:=h
 exact⟨_,rfl,hb,λE' h1 h2=>AhU (.sl0 _ _ _ _ _) (.lit _ _)⟩
theorem Acl (a b:V3) (f t:Int):AF Tryz.prog 31 [Bs a,Bs b,.int f,.int t] (Aar a b f t 2):=jJ (vs:=[_,_,_,_]) λw=>(Ys a.x a.y a.z b.x b.y b.z f t w).mono λ_ _ h=>xB h
theorem Acm (a:V3) (f t:Int):AF Tryz.prog 33 [Bs a,.int f,.int t] (Aar a a f t 0):=jJ (vs:=[_,_,_]) λw=>(iI a.x a.y a.z f t w).mono λ_ _ h=>xB h
abbrev Ts (l:List V3):AV:= .sl 3 l.length λi=>Bs (l.getD i V3.zero)
abbrev Nf (l:List ByteArray):AV:= .sl 1 l.length λi=> .lit (.string (l.getD i ByteArray.empty))
abbrev mvA (m:Mv):AV:= .lit (.agg #[.int .i64 m.to.x,.int .i64 m.to.y,.int .i64 m.to.z,.int .i64 m.wait,.int .i64 m.flight,.int .i64 m.rise])
abbrev AaG (l:List Mv):AV:= .sl 6 l.length λi=>mvA (l.getD i Mv.none)
abbrev Agm (a:Ac):AV:= .agg [.lit (.string a.name),.int a.len,AaG a.moves]
abbrev Lv (l:List Ac):AV:= .sl 3 l.length λi=>Agm (l.getD i Ac.none)
abbrev Hc (p:Pr):AV:= .agg [Nf p.names,Ts p.homes,Lv p.acts]
theorem Pt {α:Type} (f:α->List Value) (k:Nat) (hf:∀a,(f a).length=k):∀(l:List α) (i j:Nat) (d:α),i<l.length->j<k->(l.flatMap f).getD (i*k+j) undef=(f (l.getD i d)).getD j undef
 |[],i,j,d,hi,_=>by simp at hi
 |a::l,0,j,d,_,hj=>by
  rw[List.flatMap_cons,List.getD_eq_getElem?_getD,List.getElem?_append_left (by rw[hf];omega)]
  simp[List.getD_eq_getElem?_getD]
 |a::l,i+1,j,d,hi,hj=>by
  rw[List.flatMap_cons,List.getD_eq_getElem?_getD,List.getElem?_append_right (by rw[hf,Nat.succ_mul];omega),hf]
  have:=Pt f k hf l i j d (by simpa using hi) hj
  rw[List.getD_eq_getElem?_getD] at this
  rw[show (i+1)*k+j-k=i*k+j by rw[Nat.succ_mul];omega,this]
  simp[List.getD_eq_getElem?_getD]
theorem Zo {α:Type} (f:α->List Value) (k:Nat) (hf:∀a,(f a).length=k):∀l:List α,(l.flatMap f).length=l.length*k
 |[]=>by simp
 |a::l=>by rw[List.flatMap_cons,List.length_append,hf,Zo f k hf l,List.length_cons,Nat.succ_mul];omega
theorem AbH {E:Bc} {l:List V3} {v:Value} (h:VR E (Ts l) v):Cy E.w E.D 3 v l.length (Ic l):=
 bA h (Ic l) (Zw l) λi j hi hj=>by
  have:=Pt (λv:V3=>[Value.int .i64 v.x,.int .i64 v.y,.int .i64 v.z]) 3 (λ_=>rfl) l i j V3.zero hi hj
  show _=AV.lit ((Ic l).getD (i*3+j) undef)
  unfold Ic
  rw[this]
  match j,hj with
  |0,_=>rfl
  |1,_=>rfl
  |2,_=>rfl
theorem Aex {E:Bc} {l:List Mv} {v:Value} (h:VR E (AaG l) v):Cy E.w E.D 6 v l.length (mvs l):=
 bA h (mvs l) (Zo Mv.cells 6 (λ_=>rfl) l) λi j hi hj=>by
  have:=Pt Mv.cells 6 (λ_=>rfl) l i j Mv.none hi hj
  unfold mvs
  rw[this]
  match j,hj with
  |0,_=>rfl
  |1,_=>rfl
  |2,_=>rfl
  |3,_=>rfl
  |4,_=>rfl
  |5,_=>rfl
theorem tX {E:Bc} {l:List ByteArray} {v:Value} (h:VR E (Nf l) v):Cy E.w E.D 1 v l.length (strs l):=
 bA h (strs l) (by simp[strs]) λi j hi hj=>by
  obtain rfl:j=0:=by omega
  rw[Nat.mul_one,Nat.add_zero]
  show AV.lit (.string (l.getD i ByteArray.empty))=AV.lit ((strs l).getD i undef)
  simp[strs,List.getD_eq_getElem?_getD,hi]
def Zh:List Ac->(Nat->Value)->List Value
 |[],_=>[]
 |a::l,g=>[.string a.name,.int .i64 a.len,g 0]++Zh l λi=>g (i+1)
theorem Yj:∀(l:List Ac) (g:Nat->Value),(Zh l g).length=l.length*3
 |[],_=>rfl
 |a::l,g=>by rw[Zh,List.length_append,Yj l];simp;omega
theorem nO:∀(l:List Ac) (g:Nat->Value) (i j:Nat),i<l.length->j<3->(Zh l g).getD (i*3+j) undef=[Value.string (l.getD i Ac.none).name,.int .i64 (l.getD i Ac.none).len,g i].getD j undef
 |[],g,i,j,hi,_=>by simp at hi
 |a::l,g,0,j,_,hj=>by
  rw[Zh,List.getD_eq_getElem?_getD,List.getElem?_append_left (by simp;omega)]
  simp[List.getD_eq_getElem?_getD]
 |a::l,g,i+1,j,hi,hj=>by
  rw[Zh,List.getD_eq_getElem?_getD,List.getElem?_append_right (by simp;omega)]
  have:=nO l (λi=>g (i+1)) i j (by simpa using hi) hj
  rw[List.getD_eq_getElem?_getD] at this
  rw[show (i+1)*3+j-[Value.string a.name,.int .i64 a.len,g 0].length=i*3+j by simp;omega,this]
  simp[List.getD_eq_getElem?_getD]
theorem cC {w:World} {D:Nat->Prop}:∀(l:List Ac) (g:Nat->Value),(∀i,i<l.length->Cy w D 6 (g i) (l.getD i Ac.none).moves.length (mvs (l.getD i Ac.none).moves))->Se w D l (Zh l g)
 |[],_,_=>rfl
 |a::l,g,h=>⟨_,_,rfl,⟨g 0,rfl,by simpa using h 0 (by simp)⟩,cC l (λi=>g (i+1)) λi hi=>by simpa using h (i+1) (by simpa using hi)⟩
theorem zW {E:Bc} {l:List Ac} {v:Value} (h:VR E (Lv l) v):∃cs,Cy E.w E.D 3 v l.length cs/\Se E.w E.D l cs:=by
 unfold Lv at h
 generalize hn:l.length=n at h ⊢
 cases h with
 |sl0=>
  have:l=[]:=List.eq_nil_of_length_eq_zero hn
  subst this
  exact⟨[],⟨rfl,.inl ⟨_,_,rfl,rfl⟩⟩,rfl⟩
 |sl _ _ _ _ b q c us hn0 hD hcell hr=>
  refine⟨Zh l λi=>us i 2,⟨by rw[Yj,hn],.inr ⟨b,q,c,rfl,hD,λk u hu=>?_⟩⟩,cC l _ λi hi=>?_⟩
  obtain⟨hk,he⟩:=List.getElem?_eq_some_iff.1 hu
  rw[Yj,hn] at hk
  obtain⟨d1,d2,d3⟩:=kF hk δ
  have h1:=hcell _ _ d1 d2
  have h2:=hr _ _ d1 d2
  have h3:=nO l (λi=>us i 2) (k/3) (k%3) (by rw[hn];exact d1) d2
  rw[d3,List.getD_eq_getElem?_getD,hu] at h3
  rw[Nat.add_assoc,d3] at h1
  rw[h1]
  congr 1
  have h4:u=[Value.string (l.getD (k/3) Ac.none).name,.int .i64 (l.getD (k/3) Ac.none).len,us (k/3) 2].getD (k%3) undef:=h3
  rw[h4]
  generalize hj:k%3=j at h2 d2
  match j,d2 with
  |0,_=>exact h2.lit_inv
  |1,_=>exact h2.lit_inv
  |2,_=>rfl
  have h2:=hr i 2 ω δ
  exact Aex (E:=E.fz) h2
theorem Ahr {E:Bc} {p:Pr} {v:Value} (h:VR E (Hc p) v) (hD:∀b,E.D b->b<E.w.heap.size):∃vn vh va,v= .agg #[vn,vh,va]/\Kd E.w E.w.heap.size vn vh va p:=by
 have hrg:∀b,E.D b->rg 0 E.w.heap.size b:=λb hb=>⟨Nat.zero_le _,hD b hb⟩
 cases h with
 |agg _ _ vs hn hr=>
  have g:=VR.tops hr
  have hvs:vs=#[vs.getD 0 undef,vs.getD 1 undef,vs.getD 2 undef]:=by
   apply Array.ext
   simpa using hn
   intro i h1 h2
   have h3:i<3:=by simpa using h2
   match i,h3 with
   |0,_=>simp[Array.getD,h1]
   |1,_=>simp[Array.getD,h1]
   |2,_=>simp[Array.getD,h1]
  obtain⟨cs,k1,k2⟩:=zW (g 2)
  exact⟨_,_,_,congrArg _ hvs,⟨(tX (g 0)).more hrg,(AbH (g 1)).more hrg,cs,k1.more hrg,k2.more hrg⟩⟩
structure Lf (p:Pr):Prop where
 names:∀s∈p.names,s.size<=maxLen
 anames:∀a∈p.acts,a.name.size<=maxLen
 acts:p.acts.length<=1000000
 moves:∀a∈p.acts,a.moves.length<=1000000
 lens:∀a∈p.acts,Cc a.len
theorem xY {vs:Array Value} (h:vs.size=1):vs=#[vs.getD 0 undef]:=by
 apply Array.ext
 simpa using h
 intro i h1 h2
 have:i=0:=by simp at h2;exact h2
 subst this
 simp[h1]
theorem Kc (p:Pr) (hp:Lf p):AF Tryz.prog 22 [Hc p] (.bool (Fv p)):=Sb λE us hD hn hv=>by
 rw[xY hn]
 have h0:=hv 0 (by simp)
 obtain⟨vn,vh,va,e,h1⟩:=Ahr (E:=E.fz) (p:=p) h0 hD
 rw[e]
 refine(AbE p vn vh va E.w h1 hp.names hp.anames hp.acts hp.moves).mono ?_
 rintro e w' ⟨rfl,hb⟩
 exact⟨_,rfl,hb,λ_ _ _ _=> .lit _ _⟩
structure De where
 sides:List V3
 across:Int
 down:Int
 ground:Int
abbrev Km (l:List V3):AV:= .slc 3 l.length λi=>Bs (l.getD i V3.zero)
abbrev Jt (d:De):AV:= .agg [Km d.sides,.int d.across,.int d.down,.int d.ground]
structure Cs where
 craft:Int
 act:Int
abbrev Nt (c:Cs):AV:= .lit (.agg #[.int .i64 c.craft,.int .i64 c.act])
def AiF (p:Pr) (a k:Int):Prop:=(p.names.length:Int)<=a/\(p.homes.length:Int)<=a/\(p.acts.length:Int)<=k/\(∀i,i<p.names.length->(p.names.getD i ByteArray.empty).size<=60)/\∀i,i<p.acts.length->(p.acts.getD i Ac.none).name.size<=60/\((p.acts.getD i Ac.none).moves.length:Int)<=a
theorem Acj (p:Pr) (a k:Int) (ha:Cc a) (hk:Cc k):AF Tryz.prog 4 [Hc p,.int a,.int k] (.bool (bP (AiF p a k))):=by
 refine Be func4 rfl λB D0 hA0=>?_
 refine Ab 15 (He 14 (a<(p.names.length:Int)) (λhx1 hx1d=>?_) (λhx1 hx1d=>?_))
 ·
  exact Ab 23 (El (.bool false) (congrArg AV.bool (Bf (by rintro⟨g1,g2,g3,g4,g5⟩;first|omega|(have:=g4 i ω;omega)|(have:=g5 j ω;omega))).symm))
 ·
  refine Ab 7 (He 21 (a<(p.homes.length:Int)) (λhx2 hx2d=>?_) (λhx2 hx2d=>?_))
  ·
   exact Ab 16 (El (.bool false) (congrArg AV.bool (Bf (by rintro⟨g1,g2,g3,g4,g5⟩;first|omega|(have:=g4 i ω;omega)|(have:=g5 j ω;omega))).symm))
  ·
   refine Ab 8 (He 27 (k<(p.acts.length:Int)) (λhx3 hx3d=>?_) (λhx3 hx3d=>?_))
   ·
    exact Ab 8 (El (.bool false) (congrArg AV.bool (Bf (by rintro⟨g1,g2,g3,g4,g5⟩;first|omega|(have:=g4 i ω;omega)|(have:=g5 j ω;omega))).symm))
   ·
    refine Ab 10 (Vw [1,3,7] p.names.length (λi=>∀q,q<i->(p.names.getD q ByteArray.empty).size<=60) (λi=>⟨[(1,.int a),(3,.ptr 0 0),(7,.int (i:Int))],[(0,.box 26 [Nf p.names,Ts p.homes,Lv p.acts])],1,68⟩) (λq hq=>absurd hq (Nat.not_lt_zero q)) (λi hin hFi J1 hJ1=>?_))
    refine Ab 10 (He 32 ((i:Int)<(p.names.length:Int)) (λhx4 hx4d=>?_) (λhx4 hx4d=>?_))
    ·
     refine Ab 10 (Iz i p.names.length (Ab 1 (Mm (.int .i64 (ByteArray.size (p.names.getD i ByteArray.empty):Int)) (.int .i64 (ByteArray.size (p.names.getD i ByteArray.empty):Int)) (Ab 3 (He 41 ((60:Int)<(ByteArray.size (p.names.getD i ByteArray.empty):Int)) (λhx5 hx5d=>?_) (λhx5 hx5d=>?_))))))
     ·
      exact Ab 12 (El (.bool false) (congrArg AV.bool (Bf (by rintro⟨g1,g2,g3,g4,g5⟩;first|omega|(have:=g4 i ω;omega)|(have:=g5 j ω;omega))).symm))
     ·
      exact Ab 6 (Dm ((i:Int)+1) ((i+1:Nat):Int) (Ab 2 (eX [1,3,7] (hJ1 ω (λq hq=>(Nat.lt_or_ge q i).elim (λg=>hFi q g) λg=>by have e:q=i:=(ω);subst e;omega)))))
    ·
     refine Ab 13 (Vw [1,3,8] p.acts.length (λj=>∀q,q<j->(p.acts.getD q Ac.none).name.size<=60/\((p.acts.getD q Ac.none).moves.length:Int)<=a) (λj=>⟨[(1,.int a),(3,.ptr 0 0),(8,.int (j:Int))],[(0,.box 26 [Nf p.names,Ts p.homes,Lv p.acts])],1,68⟩) (λq hq=>absurd hq (Nat.not_lt_zero q)) (λj hjn hFj J2 hJ2=>?_))
     refine Ab 10 (He 46 ((j:Int)<(p.acts.length:Int)) (λhx6 hx6d=>?_) (λhx6 hx6d=>?_))
     ·
      refine Ab 10 (Iz j p.acts.length (Ab 2 (Mm (.int .i64 (ByteArray.size ((p.acts.getD j Ac.none).name):Int)) (.int .i64 (ByteArray.size ((p.acts.getD j Ac.none).name):Int)) (Ab 2 (He 57 ((60:Int)<(ByteArray.size ((p.acts.getD j Ac.none).name):Int)) (λhx7 hx7d=>?_) (λhx7 hx7d=>?_))))))
      ·
       exact Ab 24 (El (.bool false) (congrArg AV.bool (Bf (by rintro⟨g1,g2,g3,g4,g5⟩;first|omega|(have:=g4 i ω;omega)|(have:=g5 j ω;omega))).symm))
      ·
       refine Ab 3 (Iz j p.acts.length (Ab 8 (He 67 (a<((p.acts.getD j Ac.none).moves.length:Int)) (λhx8 hx8d=>?_) (λhx8 hx8d=>?_))))
       ·
        exact Ab 12 (El (.bool false) (congrArg AV.bool (Bf (by rintro⟨g1,g2,g3,g4,g5⟩;first|omega|(have:=g4 i ω;omega)|(have:=g5 j ω;omega))).symm))
       ·
        exact Ab 6 (Dm ((j:Int)+1) ((j+1:Nat):Int) (Ab 2 (eX [1,3,8] (hJ2 ω (λq hq=>(Nat.lt_or_ge q j).elim (λg=>hFj q g) λg=>by have e:q=j:=(ω);subst e;omega)))))
     ·
      exact Ab 12 (El (.bool true) (congrArg AV.bool (Cn (⟨ω,ω,ω,λq hq=>hFi q ω,λq hq=>hFj q ω⟩)).symm))
theorem Ack (d:De):AF Tryz.prog 5 [Jt d] (.bool (decide ((d.sides.length:Int)<=17))):=by
 refine Be func5 rfl λB D0 hA0=>?_
 exact Ab 16 (Cu)
def Wp (n:Nat) (p:Nat->Bool):Int:=match (List.range n).find? p with|some i=>(i:Int)|none=> -1
theorem AdI (n:Nat) (p:Nat->Bool) (h:∀q,q<n->p q=false):Wp n p= -1:=by
 have:(List.range n).find? p=none:=List.find?_eq_none.2 λq hq=>by simp[h q (List.mem_range.1 hq)]
 unfold Wp;rw[this]
theorem AgK (n:Nat) (p:Nat->Bool) (i:Nat) (hi:i<n) (h:∀q,q<i->p q=false) (h2:p i=true):Wp n p=(i:Int):=by
 have:(List.range n).find? p=some i:=List.find?_range_eq_some.2 ⟨h2,by simpa using hi,λj hj=>by simp[h j hj]⟩
 unfold Wp;rw[this]
theorem Aco (l:List V3) (n:Nat) (v:V3) (hn:n<=1000000):AF Tryz.prog 74 [.sl 3 n λi=>Bs (l.getD i V3.zero),Bs v] (.int (Wp n λi=>decide ((l.getD i V3.zero).x=v.x/\(l.getD i V3.zero).y=v.y/\(l.getD i V3.zero).z=v.z))):=by
 refine Be func74 rfl λB D0 hA0=>?_
 refine Ab 15 (Vw [0,3,7,8] n (λi=>∀q,q<i->decide ((l.getD q V3.zero).x=v.x/\(l.getD q V3.zero).y=v.y/\(l.getD q V3.zero).z=v.z)=false) (λi=>⟨[(0,.sl 3 n (λi0=>Bs (l.getD i0 V3.zero))),(3,.ptr 0 0),(7,.int (n:Int)),(8,.int (i:Int))],[(0,.box 62 [.int v.x,.int v.y,.int v.z])],1,19⟩) (λq hq=>absurd hq (Nat.not_lt_zero q)) (λi hin hFi J1 hJ1=>?_))
 refine Ab 6 (He 9 ((i:Int)<(n:Int)) (λhx1 hx1d=>?_) (λhx1 hx1d=>?_))
 ·
  refine Ab 12 (Dg [(3,Dx (.sl 3 n (λi0=>Bs (l.getD i0 V3.zero))) i,.none),(5,.bool (decide (v.x=(l.getD i V3.zero).x/\v.y=(l.getD i V3.zero).y/\v.z=(l.getD i V3.zero).z)),.none)] [0,3,5,7,8,16] ⟨Pc i n,As (Uf 62 62 (.tmp 11) (.tmp 15) κ _ _ κ κ κ (decide (v.x=(l.getD i V3.zero).x/\v.y=(l.getD i V3.zero).y/\v.z=(l.getD i V3.zero).z)) (Ss _ _ _ _ _ _)),trivial⟩ (Ab 1 (He 16 (v.x=(l.getD i V3.zero).x/\v.y=(l.getD i V3.zero).y/\v.z=(l.getD i V3.zero).z) (λhx2 hx2d=>?_) (λhx2 hx2d=>?_))))
  ·
   exact Ab 13 (El (.int (i:Int)) (congrArg AV.int (AgK n _ i ω (λq hq=>hFi q hq) (by simp only[decide_eq_true_eq];omega)).symm))
  ·
   exact Ab 5 (Dm ((i:Int)+1) ((i+1:Nat):Int) (Ab 2 (eX [0,3,7,8] (hJ1 ω (λq hq=>(Nat.lt_or_ge q i).elim (λg=>hFi q g) λg=>by have e:q=i:=(ω);subst e;simp only[decide_eq_false_iff_not];omega)))))
 ·
  exact Ab 12 (El (.int (-1)) (congrArg AV.int (AdI n _ λq hq=>hFi q ω).symm))
def Fg (l:List Ac):Nat->Int
 |0=>0
 |k+1=>Fg l k+(l.getD k Ac.none).len
theorem dM {p:Pr} {k:Nat} {t:Int} {m:List Int}:∀{i:Nat} {l:List Int},Gf p k t m i=some l->∀j,j<i->Rt p k t j=0
 |0,_,_,j,hj=>absurd hj (Nat.not_lt_zero j)
 |i+1,l,h,j,hj=>by
  rw[Gf] at h
  cases h1:Gf p k t m i with
  |none=>rw[h1] at h;cases h
  |some l1=>
   rw[h1] at h
   simp only at h
   split at h
   rename_i hc
   rcases Nat.lt_or_ge j i with hji|hji
   exact dM h1 j hji
   have:j=i:=by omega
   subst this
   exact hc.1
   cases h
theorem qV {p:Pr}:∀{k:Nat} {t:Int} {m:List Int},Mk p k=some (t,m)->t=Fg p.acts k/\0<=t/\t<=3600000/\∀j,j<k->(0<=Fg p.acts j/\Fg p.acts j<=3600000)/\1<=(p.acts.getD j Ac.none).len/\(p.acts.getD j Ac.none).moves.length=p.names.length/\∀i,i<p.names.length->Rt p j (Fg p.acts j) i=0
 |0,t,m,h=>by
  simp only[Mk,Option.some.injEq,Prod.mk.injEq] at h
  obtain⟨rfl,_⟩:=h
  exact⟨rfl,Int.le_refl _,δ,λj hj=>absurd hj (Nat.not_lt_zero j)⟩
 |k+1,t,m,h=>by
  rw[Mk] at h
  cases h1:Mk p k with
  |none=>rw[h1] at h;cases h
  |some tm=>
   obtain⟨t1,m1⟩:=tm
   rw[h1] at h
   simp only at h
   split at h
   rename_i hc
   cases h2:Gf p k t1 m1 p.names.length with
   |none=>rw[h2] at h;cases h
   |some m2=>
    rw[h2] at h
    simp only[Option.some.injEq,Prod.mk.injEq] at h
    obtain⟨rfl,rfl⟩:=h
    obtain⟨e1,e2,e3,e4⟩:=qV h1
    refine⟨by rw[Fg,e1],ω,ω,λj hj=>?_⟩
    rcases Nat.lt_or_ge j k with hjk|hjk
    exact e4 j hjk
    have:j=k:=by omega
    subst this
    rw[<-e1]
    exact⟨⟨e2,e3⟩,hc.2.1,hc.2.2.2,dM h2⟩
   cases h
structure AcM (p:Pr):Prop where
 n1:1<=p.names.length/\p.names.length<=64
 homes:p.homes.length=p.names.length
 acts:p.acts.length<=60
 ends:∀j,j<=p.acts.length->0<=Fg p.acts j/\Fg p.acts j<=3600000
 len:∀j,j<p.acts.length->1<=(p.acts.getD j Ac.none).len
 mv:∀j,j<p.acts.length->(p.acts.getD j Ac.none).moves.length=p.names.length
 pe:∀j i,j<p.acts.length->i<p.names.length->Rt p j (Fg p.acts j) i=0
theorem Hv {p:Pr} (h:Fv p=true):AcM p:=by
 unfold Fv at h
 simp only[Bool.and_eq_true,decide_eq_true_eq] at h
 obtain⟨⟨h1,h2⟩,h3⟩:=h
 unfold Sn at h1
 simp only[Bool.and_eq_true,decide_eq_true_eq] at h1
 obtain⟨tm,ht⟩:=Option.isSome_iff_exists.1 h3
 obtain⟨t,m⟩:=tm
 obtain⟨e1,e2,e3,e4⟩:=qV ht
 refine⟨⟨h1.1.1.1,h1.1.1.2⟩,h1.1.2,h2,λj hj=>?_,λj hj=>(e4 j hj).2.1,λj hj=>(e4 j hj).2.2.1,λj i hj hi=>(e4 j hj).2.2.2 i hi⟩
 rcases Nat.lt_or_ge j p.acts.length with hlt|hge
 exact(e4 j hlt).1
 have:j=p.acts.length:=by omega
 subst this
 rw[<-e1];exact⟨e2,e3⟩
theorem AcM.to {p:Pr} (h:AcM p) {j i:Nat} (hj:j<p.acts.length) (hi:i<p.names.length):Dh 1048576 [((p.acts.getD j Ac.none).moves.getD i Mv.none).to.x,((p.acts.getD j Ac.none).moves.getD i Mv.none).to.y,((p.acts.getD j Ac.none).moves.getD i Mv.none).to.z]=true:=by
 have:=h.pe j i hj hi
 unfold Rt tpE at this
 split at this
 rename_i hb
 unfold tpB tW at hb
 simp only[Bool.and_eq_true] at hb
 have h2:Um ((p.acts.getD j Ac.none).moves.getD i Mv.none).to.x ((p.acts.getD j Ac.none).moves.getD i Mv.none).to.y ((p.acts.getD j Ac.none).moves.getD i Mv.none).to.z=true:=by
  revert hb
  simp only[and_imp]
  intros
  assumption
 exact h2
 cases this
theorem in3 {m x y z:Int} (h:Dh m [x,y,z]=true):(-m<=x/\x<=m)/\(-m<=y/\y<=m)/\(-m<=z/\z<=m):=by
 unfold Dh at h
 simpa using h
theorem getD_in {l:List Ac} (h:∀a∈l,Cc a.len) (i:Nat):Cc (l.getD i Ac.none).len:=by
 rw[List.getD_eq_getElem?_getD]
 cases hi:l[i]? with
 |none=>exact⟨δ,δ⟩
 |some a=>exact h a (List.mem_of_getElem? hi)
abbrev vOk (v:V3):Bool:=Dh 16777216 [v.x,v.y,v.z]
def Ev (d:De):Prop:=(1<=d.sides.length/\d.sides.length<=16/\1<=d.across/\d.across<=3600000/\1<=d.down/\d.down<=3600000/\-1048576<=d.ground/\d.ground<=1048576)/\∀i,i<d.sides.length->vOk (d.sides.getD i V3.zero)=true/\(d.sides.getD i V3.zero).z=0/\∀j,j<i->¬((d.sides.getD j V3.zero).x=(d.sides.getD i V3.zero).x/\(d.sides.getD j V3.zero).y=(d.sides.getD i V3.zero).y/\(d.sides.getD j V3.zero).z=(d.sides.getD i V3.zero).z)
structure Ru (d:De):Prop where
 n:d.sides.length<=1000000
 ac:Cc d.across
 dn:Cc d.down
 gr:Cc d.ground
theorem oK (n:Nat) (p:Nat->Bool):0<=Wp n p↔∃q,q<n/\p q=true:=by
 unfold Wp
 cases h:(List.range n).find? p with
 |none=>
  have:=List.find?_eq_none.1 h
  constructor
  intro h;exact absurd h δ
  rintro⟨q,hq,hp⟩
  exact absurd hp (this q (List.mem_range.2 hq))
 |some i=>
  have h1:=List.find?_some h
  have h2:=List.mem_of_find?_eq_some h
  exact⟨λ_=>⟨i,List.mem_range.1 h2,h1⟩,λ_=>Int.natCast_nonneg i⟩
theorem mT (l:List V3) (n:Nat) (v:V3) (hn:n<=1000000):AF Tryz.prog 43 [.sl 3 n λi=>Bs (l.getD i V3.zero),Bs v] (.bool (bP (∃q,q<n/\(l.getD q V3.zero).x=v.x/\(l.getD q V3.zero).y=v.y/\(l.getD q V3.zero).z=v.z))):=by
 have HQ:decide ((0:Int)<=Wp n λi=>decide ((l.getD i V3.zero).x=v.x/\(l.getD i V3.zero).y=v.y/\(l.getD i V3.zero).z=v.z))=bP (∃q,q<n/\(l.getD q V3.zero).x=v.x/\(l.getD q V3.zero).y=v.y/\(l.getD q V3.zero).z=v.z):=by
  by_cases h:∃q,q<n/\(l.getD q V3.zero).x=v.x/\(l.getD q V3.zero).y=v.y/\(l.getD q V3.zero).z=v.z
  ·
   rw[Cn h,decide_eq_true_eq,oK]
   obtain⟨q,hq,h⟩:=h
   exact⟨q,hq,by simpa using h⟩
  ·
   rw[Bf h,decide_eq_false_iff_not,oK]
   rintro⟨q,hq,h2⟩
   exact h ⟨q,hq,by simpa using h2⟩
 refine Be func43 rfl λB D0 hA0=>?_
 exact Ab 10 (Aw (Aco l n v hn) (Ab 5 (El (.bool (decide ((0:Int)<=Wp n (λi=>decide ((l.getD i V3.zero).x=v.x/\(l.getD i V3.zero).y=v.y/\(l.getD i V3.zero).z=v.z))))) (congrArg AV.bool HQ))))
theorem Fw (d:De) (hd:Ru d):AF Tryz.prog 20 [Jt d] (.bool (bP (Ev d))):=by
 have hdn:=hd.n
 refine Be func20 rfl λB D0 hA0=>?_
 refine Ab 14 (He 9 ((d.sides.length:Int)<1) (λhx1 hx1d=>?_) (λhx1 hx1d=>?_))
 ·
  exact Ab 45 (El (.bool false) (congrArg AV.bool (Bf (by rintro⟨⟨g1,g2,g3,g4,g5,g6,g7,g8⟩,g9⟩;first|omega|(have g:=(g9 i ω).2.1;omega))).symm))
 ·
  refine Ab 6 (He 15 ((16:Int)<(d.sides.length:Int)) (λhx2 hx2d=>?_) (λhx2 hx2d=>?_))
  ·
   exact Ab 39 (El (.bool false) (congrArg AV.bool (Bf (by rintro⟨⟨g1,g2,g3,g4,g5,g6,g7,g8⟩,g9⟩;first|omega|(have g:=(g9 i ω).2.1;omega))).symm))
  ·
   refine Ab 5 (He 20 (d.across<1) (λhx3 hx3d=>?_) (λhx3 hx3d=>?_))
   ·
    exact Ab 34 (El (.bool false) (congrArg AV.bool (Bf (by rintro⟨⟨g1,g2,g3,g4,g5,g6,g7,g8⟩,g9⟩;first|omega|(have g:=(g9 i ω).2.1;omega))).symm))
   ·
    refine Ab 5 (He 25 ((3600000:Int)<d.across) (λhx4 hx4d=>?_) (λhx4 hx4d=>?_))
    ·
     exact Ab 29 (El (.bool false) (congrArg AV.bool (Bf (by rintro⟨⟨g1,g2,g3,g4,g5,g6,g7,g8⟩,g9⟩;first|omega|(have g:=(g9 i ω).2.1;omega))).symm))
    ·
     refine Ab 5 (He 30 (d.down<1) (λhx5 hx5d=>?_) (λhx5 hx5d=>?_))
     ·
      exact Ab 24 (El (.bool false) (congrArg AV.bool (Bf (by rintro⟨⟨g1,g2,g3,g4,g5,g6,g7,g8⟩,g9⟩;first|omega|(have g:=(g9 i ω).2.1;omega))).symm))
     ·
      refine Ab 5 (He 35 ((3600000:Int)<d.down) (λhx6 hx6d=>?_) (λhx6 hx6d=>?_))
      ·
       exact Ab 19 (El (.bool false) (congrArg AV.bool (Bf (by rintro⟨⟨g1,g2,g3,g4,g5,g6,g7,g8⟩,g9⟩;first|omega|(have g:=(g9 i ω).2.1;omega))).symm))
      ·
       refine Ab 5 (He 40 (d.ground< -1048576) (λhx7 hx7d=>?_) (λhx7 hx7d=>?_))
       ·
        exact Ab 14 (El (.bool false) (congrArg AV.bool (Bf (by rintro⟨⟨g1,g2,g3,g4,g5,g6,g7,g8⟩,g9⟩;first|omega|(have g:=(g9 i ω).2.1;omega))).symm))
       ·
        refine Ab 6 (He 44 ((1048576:Int)<d.ground) (λhx8 hx8d=>?_) (λhx8 hx8d=>?_))
        ·
         exact Ab 8 (El (.bool false) (congrArg AV.bool (Bf (by rintro⟨⟨g1,g2,g3,g4,g5,g6,g7,g8⟩,g9⟩;first|omega|(have g:=(g9 i ω).2.1;omega))).symm))
        ·
         refine Ab 13 (Vw [1,46,47,48] d.sides.length (λi=>∀q,q<i->vOk (d.sides.getD q V3.zero)=true/\(d.sides.getD q V3.zero).z=0/\∀j,j<q->¬((d.sides.getD j V3.zero).x=(d.sides.getD q V3.zero).x/\(d.sides.getD j V3.zero).y=(d.sides.getD q V3.zero).y/\(d.sides.getD j V3.zero).z=(d.sides.getD q V3.zero).z)) (λi=>⟨[(1,.ptr 0 0),(46,Km d.sides),(47,.int (d.sides.length:Int)),(48,.int (i:Int))],[(0,.box 28 [Km d.sides,.int d.across,.int d.down,.int d.ground])],1,70⟩) (λq hq=>absurd hq (Nat.not_lt_zero q)) (λi hin hFi J1 hJ1=>?_))
         refine Ab 6 (He 49 ((i:Int)<(d.sides.length:Int)) (λhx9 hx9d=>?_) (λhx9 hx9d=>?_))
         ·
          refine Ab 8 (Iz i d.sides.length (Ab 7 ?_))
          refine Ct (Dh 16777216 [(d.sides.getD i V3.zero).x,(d.sides.getD i V3.zero).y,(d.sides.getD i V3.zero).z]) (λhx10=>?_) (λhx10=>?_)
          ·
           refine vsp ((d.sides.getD i V3.zero).z=0) (λhx11 hx11d=>?_) (λhx11 hx11d=>?_)
           ·
            refine Dg [(1,.bool true,.none),(6,.bool false,.none),(12,.sl 3 i (λi0=>Bs (d.sides.getD i0 V3.zero)),.none),(14,_,.none)] [1,46,47,48,68] ⟨Vx hx10 (Bu (Ko (d.sides.getD i V3.zero))),xH (nt hx11),As (lJ 23 (.tmp 63) (.tmp 64) κ underlying23 3 d.sides.length sizeOf62 (λi0=>Bs (d.sides.getD i0 V3.zero)) κ i (.inr ⟨(.tmp 64),(i:Int),rfl,κ,ω⟩) ω),Bu (mT d.sides i (d.sides.getD i V3.zero) ω),trivial⟩ (Ab 1 (vsb 68 (bP (∃q,q<i/\(d.sides.getD q V3.zero).x=(d.sides.getD i V3.zero).x/\(d.sides.getD q V3.zero).y=(d.sides.getD i V3.zero).y/\(d.sides.getD q V3.zero).z=(d.sides.getD i V3.zero).z)) (λhx12=>?_) (λhx12=>?_)))
            ·
             exact Ab 12 (El (.bool false) (congrArg AV.bool (Bf (by rintro⟨⟨g1,g2,g3,g4,g5,g6,g7,g8⟩,g9⟩;first|omega|(have g:=(g9 i ω).2.1;omega)|(have g:=(g9 i ω).1;unfold vOk at g;rw[hx10] at g;exact Bool.noConfusion g)|(obtain⟨q,hq,hc⟩:=Fx hx12;exact(g9 i ω).2.2 q hq hc))).symm))
            ·
             exact Ab 5 (Dm ((i:Int)+1) ((i+1:Nat):Int) (Ab 2 (Xx [1,46,47,48] [(0,0)] 1 0 hA0 [] trivial (hJ1 ω (λq hq=>(Nat.lt_or_ge q i).elim (λg=>hFi q g) λg=>by have e:q=i:=(ω);subst e;exact⟨hx10,ω,λj hj hc=>Qo hx12 ⟨j,hj,hc⟩⟩)))))
           ·
            exact Dg [(1,.bool true,.none),(6,.bool true,.none)] [1,46,47,48,68] ⟨Vx hx10 (Bu (Ko (d.sides.getD i V3.zero))),xH (nf hx11),trivial⟩ (Ab 13 (El (.bool false) (congrArg AV.bool (Bf (by rintro⟨⟨g1,g2,g3,g4,g5,g6,g7,g8⟩,g9⟩;first|omega|(have g:=(g9 i ω).2.1;omega)|(have g:=(g9 i ω).1;unfold vOk at g;rw[hx10] at g;exact Bool.noConfusion g))).symm)))
          ·
           exact Dg [(1,.bool false,.none)] [1,46,47,48,68] ⟨Vx hx10 (Bu (Ko (d.sides.getD i V3.zero))),trivial⟩ (Ab 13 (El (.bool false) (congrArg AV.bool (Bf (by rintro⟨⟨g1,g2,g3,g4,g5,g6,g7,g8⟩,g9⟩;first|omega|(have g:=(g9 i ω).2.1;omega)|(have g:=(g9 i ω).1;unfold vOk at g;rw[hx10] at g;exact Bool.noConfusion g))).symm)))
         ·
          exact Ab 12 (El (.bool true) (congrArg AV.bool (Cn (by refine⟨⟨ω,ω,ω,ω,ω,ω,ω,ω⟩,λq hq=>hFi q ω⟩)).symm))
theorem Sa (d:De) (hd:Ru d):AF Tryz.prog 11 [Jt d] (.bool (bP (Ev d))):=by
 have hdn:=hd.n
 refine Be func11 rfl λB D0 hA0=>?_
 refine Ab 13 (Vw [1,3] d.sides.length (λi=>∀q,q<i->vOk (d.sides.getD q V3.zero)=true/\(d.sides.getD q V3.zero).z=0/\∀j,j<q->¬((d.sides.getD j V3.zero).x=(d.sides.getD q V3.zero).x/\(d.sides.getD j V3.zero).y=(d.sides.getD q V3.zero).y/\(d.sides.getD j V3.zero).z=(d.sides.getD q V3.zero).z)) (λi=>⟨[(1,.ptr 0 0),(3,.int (i:Int))],[(0,.box 28 [Km d.sides,.int d.across,.int d.down,.int d.ground])],1,84⟩) (λq hq=>absurd hq (Nat.not_lt_zero q)) (λi hin hFi J1 hJ1=>?_))
 refine Ab 10 (He 9 ((i:Int)<(d.sides.length:Int)) (λhx1 hx1d=>?_) (λhx1 hx1d=>?_))
 ·
  refine Ab 11 (Iz i d.sides.length (Ab 1 (Aw (Ko (d.sides.getD i V3.zero)) (Ab 2 (Rx 19 (Dh 16777216 [(d.sides.getD i V3.zero).x,(d.sides.getD i V3.zero).y,(d.sides.getD i V3.zero).z]) (λhx2=>?_) (λhx2=>?_))))))
  ·
   refine Ab 3 (Iz i d.sides.length (Ab 6 (Xy 27 ((d.sides.getD i V3.zero).z=0) (λhx3 hx3d=>?_) (λhx3 hx3d=>?_))))
   ·
    refine Ab 9 (Vw [1,3,4] i (λj=>∀r,r<j->¬((d.sides.getD r V3.zero).x=(d.sides.getD i V3.zero).x/\(d.sides.getD r V3.zero).y=(d.sides.getD i V3.zero).y/\(d.sides.getD r V3.zero).z=(d.sides.getD i V3.zero).z)) (λj=>⟨[(1,.ptr 0 0),(3,.int (i:Int)),(4,.int (j:Int))],[(0,.box 28 [Km d.sides,.int d.across,.int d.down,.int d.ground])],1,84⟩) (λq hq=>absurd hq (Nat.not_lt_zero q)) (λj hjn hFj J2 hJ2=>?_))
    refine Ab 8 (He 30 ((j:Int)<(i:Int)) (λhx4 hx4d=>?_) (λhx4 hx4d=>?_))
    ·
     refine Ab 6 (Dg [(3,Dx (Km d.sides) j,.none),(8,Dx (Km d.sides) i,.none),(10,.bool (decide ((d.sides.getD j V3.zero).x=(d.sides.getD i V3.zero).x/\(d.sides.getD j V3.zero).y=(d.sides.getD i V3.zero).y/\(d.sides.getD j V3.zero).z=(d.sides.getD i V3.zero).z)),.none)] [1,3,4,43] ⟨Pc j d.sides.length,Pc i d.sides.length,As (Uf 62 62 (.tmp 37) (.tmp 42) κ _ _ κ κ κ (decide ((d.sides.getD j V3.zero).x=(d.sides.getD i V3.zero).x/\(d.sides.getD j V3.zero).y=(d.sides.getD i V3.zero).y/\(d.sides.getD j V3.zero).z=(d.sides.getD i V3.zero).z)) (Ss _ _ _ _ _ _)),trivial⟩ (Ab 1 (He 43 ((d.sides.getD j V3.zero).x=(d.sides.getD i V3.zero).x/\(d.sides.getD j V3.zero).y=(d.sides.getD i V3.zero).y/\(d.sides.getD j V3.zero).z=(d.sides.getD i V3.zero).z) (λhx5 hx5d=>?_) (λhx5 hx5d=>?_))))
     ·
      exact Ab 16 (El (.bool false) (congrArg AV.bool (Bf (by rintro⟨⟨g1,g2,g3,g4,g5,g6,g7,g8⟩,g9⟩;first|omega|(have g:=(g9 i ω).2.1;omega)|(have g:=(g9 i ω).2.2 j ω;omega)|(have g:=(g9 i ω).1;unfold vOk at g;rw[hx2] at g;exact Bool.noConfusion g))).symm))
     ·
      exact Ab 6 (Dm ((j:Int)+1) ((j+1:Nat):Int) (Ab 2 (eX [1,3,4] (hJ2 ω (λr hr=>(Nat.lt_or_ge r j).elim (λg=>hFj r g) λg=>by have e:r=j:=(ω);subst e;omega)))))
    ·
     exact Ab 9 (Dm ((i:Int)+1) ((i+1:Nat):Int) (Ab 2 (eX [1,3] (hJ1 ω (λq hq=>(Nat.lt_or_ge q i).elim (λg=>hFi q g) λg=>by have e:q=i:=(ω);subst e;exact⟨hx2,ω,λj2 hj=>hFj j2 ω⟩)))))
   ·
    exact Ab 13 (El (.bool false) (congrArg AV.bool (Bf (by rintro⟨⟨g1,g2,g3,g4,g5,g6,g7,g8⟩,g9⟩;first|omega|(have g:=(g9 i ω).2.1;omega)|(have g:=(g9 i ω).2.2 j ω;omega)|(have g:=(g9 i ω).1;unfold vOk at g;rw[hx2] at g;exact Bool.noConfusion g))).symm))
  ·
   exact Ab 23 (El (.bool false) (congrArg AV.bool (Bf (by rintro⟨⟨g1,g2,g3,g4,g5,g6,g7,g8⟩,g9⟩;first|omega|(have g:=(g9 i ω).2.1;omega)|(have g:=(g9 i ω).2.2 j ω;omega)|(have g:=(g9 i ω).1;unfold vOk at g;rw[hx2] at g;exact Bool.noConfusion g))).symm))
 ·
  refine Ab 13 (He 48 ((1:Int)<=(d.sides.length:Int)) (λhx6 hx6d=>?_) (λhx6 hx6d=>?_))
  ·
   refine Ab 6 (He 54 ((d.sides.length:Int)<=16) (λhx7 hx7d=>?_) (λhx7 hx7d=>?_))
   ·
    refine Ab 5 (He 59 ((1:Int)<=d.across) (λhx8 hx8d=>?_) (λhx8 hx8d=>?_))
    ·
     refine Ab 5 (He 64 (d.across<=3600000) (λhx9 hx9d=>?_) (λhx9 hx9d=>?_))
     ·
      refine Ab 5 (He 69 ((1:Int)<=d.down) (λhx10 hx10d=>?_) (λhx10 hx10d=>?_))
      ·
       refine Ab 5 (He 74 (d.down<=3600000) (λhx11 hx11d=>?_) (λhx11 hx11d=>?_))
       ·
        refine Ab 5 (He 79 ((-1048576:Int)<=d.ground) (λhx12 hx12d=>?_) (λhx12 hx12d=>?_))
        ·
         exact Ab 8 (El (.bool (decide (d.ground<=1048576))) (congrArg AV.bool (if hz:d.ground<=1048576 then (decide_eq_true hz).trans (Cn (by refine⟨⟨ω,ω,ω,ω,ω,ω,ω,ω⟩,λq hq=>hFi q ω⟩)).symm else (decide_eq_false hz).trans (Bf (by rintro⟨⟨g1,g2,g3,g4,g5,g6,g7,g8⟩,g9⟩;omega)).symm)))
        ·
         exact Ab 8 (El (.bool false) (congrArg AV.bool (Bf (by rintro⟨⟨g1,g2,g3,g4,g5,g6,g7,g8⟩,g9⟩;first|omega|(have g:=(g9 i ω).2.1;omega)|(have g:=(g9 i ω).2.2 j ω;omega))).symm))
       ·
        exact Ab 13 (El (.bool false) (congrArg AV.bool (Bf (by rintro⟨⟨g1,g2,g3,g4,g5,g6,g7,g8⟩,g9⟩;first|omega|(have g:=(g9 i ω).2.1;omega)|(have g:=(g9 i ω).2.2 j ω;omega))).symm))
      ·
       exact Ab 18 (El (.bool false) (congrArg AV.bool (Bf (by rintro⟨⟨g1,g2,g3,g4,g5,g6,g7,g8⟩,g9⟩;first|omega|(have g:=(g9 i ω).2.1;omega)|(have g:=(g9 i ω).2.2 j ω;omega))).symm))
     ·
      exact Ab 23 (El (.bool false) (congrArg AV.bool (Bf (by rintro⟨⟨g1,g2,g3,g4,g5,g6,g7,g8⟩,g9⟩;first|omega|(have g:=(g9 i ω).2.1;omega)|(have g:=(g9 i ω).2.2 j ω;omega))).symm))
    ·
     exact Ab 28 (El (.bool false) (congrArg AV.bool (Bf (by rintro⟨⟨g1,g2,g3,g4,g5,g6,g7,g8⟩,g9⟩;first|omega|(have g:=(g9 i ω).2.1;omega)|(have g:=(g9 i ω).2.2 j ω;omega))).symm))
   ·
    exact Ab 33 (El (.bool false) (congrArg AV.bool (Bf (by rintro⟨⟨g1,g2,g3,g4,g5,g6,g7,g8⟩,g9⟩;first|omega|(have g:=(g9 i ω).2.1;omega)|(have g:=(g9 i ω).2.2 j ω;omega))).symm))
  ·
   exact Ab 39 (El (.bool false) (congrArg AV.bool (Bf (by rintro⟨⟨g1,g2,g3,g4,g5,g6,g7,g8⟩,g9⟩;first|omega|(have g:=(g9 i ω).2.1;omega)|(have g:=(g9 i ω).2.2 j ω;omega))).symm))
theorem AiA (p:Pr) (hp:Lf p) (ho:AcM p) (k:Nat) (hk:k<p.acts.length):AF Tryz.prog 64 [Hc p,.int (k:Int)] (.int (Fg p.acts (k+1))):=by
 have hac:=ho.acts
 refine Be func64 rfl λB D0 hA0=>?_
 refine Ab 15 (Dm ((k:Int)+1) ((k+1:Nat):Int) (Ab 4 (Vw [2,5,8,9] (k+1) (λi=>True) (λi=>⟨[(2,.ptr 0 0),(5,.int (Fg p.acts i)),(8,.int ((k+1:Nat):Int)),(9,.int (i:Int))],[(0,.box 26 [Nf p.names,Ts p.homes,Lv p.acts])],1,22⟩) trivial (λi hin hFi J1 hJ1=>?_))))
 refine Ab 6 (He 10 ((i:Int)<((k+1:Nat):Int)) (λhx1 hx1d=>?_) (λhx1 hx1d=>?_))
 ·
  refine Ab 11 ?_
  have he2:=ho.ends i ω
  have hl:=getD_in hp.lens i
  refine Ab 5 (Iz i p.acts.length (Ab 2 (Mm (.int .i64 (IntKind.wrap .i64 (Fg p.acts i+(p.acts.getD i Ac.none).len))) (.int .i64 (Fg p.acts (i+1))) ?_ (congrArg (Value.int .i64) ((IntWalk.i64_in _ (by have he3:=ho.ends (i+1) ω;rw[Fg] at he3;omega)).trans rfl)))))
  exact Ab 5 (Dm ((i:Int)+1) ((i+1:Nat):Int) (Ab 2 (eX [2,5,8,9] (hJ1 ω trivial))))
 ·
  exact Ab 13 (El (.int (Fg p.acts i)) (congrArg (λq=>AV.int (Fg p.acts q)) (show i=k+1 by omega)))
theorem mU (p:Pr) (hp:Lf p) (ho:AcM p) (k:Nat) (hk:k<p.acts.length):AF Tryz.prog 28 [Hc p,.int (k:Int)] (.int (Fg p.acts (k+1))):=by
 have hac:=ho.acts
 refine Be func28 rfl λB D0 hA0=>?_
 refine Ab 18 (Vw [1,2,5,6] (k+1) (λi=>True) (λi=>⟨[(1,.int (k:Int)),(2,.ptr 0 0),(5,.int (Fg p.acts i)),(6,.int (i:Int))],[(0,.box 26 [Nf p.names,Ts p.homes,Lv p.acts])],1,21⟩) trivial (λi hin hFi J1 hJ1=>?_))
 have he:=ho.ends i
 refine Ab 8 (He 9 ((i:Int)<=(k:Int)) (λhx1 hx1d=>?_) (λhx1 hx1d=>?_))
 ·
  refine Ab 5 ?_
  have he2:=ho.ends i ω
  have hl:=getD_in hp.lens i
  refine Ab 5 (Iz i p.acts.length (Ab 2 (Mm (.int .i64 (IntKind.wrap .i64 (Fg p.acts i+(p.acts.getD i Ac.none).len))) (.int .i64 (Fg p.acts (i+1))) ?_ (congrArg (Value.int .i64) ((IntWalk.i64_in _ (by have he3:=ho.ends (i+1) ω;rw[Fg] at he3;omega)).trans rfl)))))
  exact Ab 6 (Dm ((i:Int)+1) ((i+1:Nat):Int) (Ab 2 (eX [1,2,5,6] (hJ1 ω trivial))))
 ·
  exact Ab 13 (El (.int (Fg p.acts i)) (congrArg (λq=>AV.int (Fg p.acts q)) (show i=k+1 by omega)))
def Ej (p:Pr) (c:Cs):Prop:=Fv p=true/\0<=c.craft/\c.craft<(p.names.length:Int)/\0<=c.act/\c.act<(p.acts.length:Int)
def Aj (p:Pr) (c:Cs):Int:=Fg p.acts (c.act.toNat+1)
def Al (p:Pr) (c:Cs):V3:=((p.acts.getD c.act.toNat Ac.none).moves.getD c.craft.toNat Mv.none).to
structure Sh (c:Cs):Prop where
 craft:Cc c.craft
 act:Cc c.act
theorem Ey (p:Pr) (c:Cs) (hp:Lf p) (_:Sh c):AF Tryz.prog 19 [Hc p,Nt c] (.bool (bP (Ej p c))):=by
 have hac:=hp.acts
 refine Be func19 rfl λB D0 hA0=>?_
 refine Ab 10 (Aw (Kc p hp) (Ab 1 (vsb 7 (Fv p) (λhx1=>?_) (λhx1=>?_))))
 ·
  refine Ab 5 (He 12 ((0:Int)<=c.craft) (λhx2 hx2d=>?_) (λhx2 hx2d=>?_))
  ·
   refine Ab 8 (He 20 (c.craft<(p.names.length:Int)) (λhx3 hx3d=>?_) (λhx3 hx3d=>?_))
   ·
    refine Ab 5 (He 25 ((0:Int)<=c.act) (λhx4 hx4d=>?_) (λhx4 hx4d=>?_))
    ·
     exact Ab 11 (El (.bool (decide (c.act<(p.acts.length:Int)))) (congrArg AV.bool (if hz:c.act<(p.acts.length:Int) then (decide_eq_true hz).trans (Cn ⟨by assumption,ω,ω,ω,hz⟩).symm else (decide_eq_false hz).trans (Bf (by rintro⟨g1,g2,g3,g4,g5⟩;omega)).symm)))
    ·
     exact Ab 11 (El (.bool false) (congrArg AV.bool (Bf (by rintro⟨g1,g2,g3,g4,g5⟩;first|omega|(simp_all;done))).symm))
   ·
    exact Ab 16 (El (.bool false) (congrArg AV.bool (Bf (by rintro⟨g1,g2,g3,g4,g5⟩;first|omega|(simp_all;done))).symm))
  ·
   exact Ab 24 (El (.bool false) (congrArg AV.bool (Bf (by rintro⟨g1,g2,g3,g4,g5⟩;first|omega|(simp_all;done))).symm))
 ·
  exact Ab 29 (El (.bool false) (congrArg AV.bool (Bf (by rintro⟨g1,g2,g3,g4,g5⟩;first|omega|(simp_all;done))).symm))
theorem Qh (p:Pr) (c:Cs) (hp:Lf p) (_:Sh c):AF Tryz.prog 10 [Hc p,Nt c] (.bool (bP (Ej p c))):=by
 have hac:=hp.acts
 refine Be func10 rfl λB D0 hA0=>?_
 refine Ab 10 (Aw (Kc p hp) (Ab 1 (vsb 7 (Fv p) (λhx1=>?_) (λhx1=>?_))))
 ·
  refine Ab 5 (He 12 ((0:Int)<=c.craft) (λhx2 hx2d=>?_) (λhx2 hx2d=>?_))
  ·
   refine Ab 8 (He 20 (c.craft<(p.names.length:Int)) (λhx3 hx3d=>?_) (λhx3 hx3d=>?_))
   ·
    refine Ab 5 (He 25 ((0:Int)<=c.act) (λhx4 hx4d=>?_) (λhx4 hx4d=>?_))
    ·
     exact Ab 11 (El (.bool (decide (c.act<(p.acts.length:Int)))) (congrArg AV.bool (if hz:c.act<(p.acts.length:Int) then (decide_eq_true hz).trans (Cn ⟨by assumption,ω,ω,ω,hz⟩).symm else (decide_eq_false hz).trans (Bf (by rintro⟨g1,g2,g3,g4,g5⟩;omega)).symm)))
    ·
     exact Ab 11 (El (.bool false) (congrArg AV.bool (Bf (by rintro⟨g1,g2,g3,g4,g5⟩;first|omega|(simp_all;done))).symm))
   ·
    exact Ab 16 (El (.bool false) (congrArg AV.bool (Bf (by rintro⟨g1,g2,g3,g4,g5⟩;first|omega|(simp_all;done))).symm))
  ·
   exact Ab 24 (El (.bool false) (congrArg AV.bool (Bf (by rintro⟨g1,g2,g3,g4,g5⟩;first|omega|(simp_all;done))).symm))
 ·
  exact Ab 29 (El (.bool false) (congrArg AV.bool (Bf (by rintro⟨g1,g2,g3,g4,g5⟩;first|omega|(simp_all;done))).symm))
theorem Qd (p:Pr) (c:Cs) (hp:Lf p) (hc:Sh c) (h:Ej p c):AF Tryz.prog 36 [Hc p,Nt c] (.lit (.tuple #[.int .i64 (Aj p c),.int .i64 0])):=by
 have hv1:=h.2.1
 have hv2:=h.2.2.1
 have hv3:=h.2.2.2.1
 have hv4:=h.2.2.2.2
 have hmv:=(Hv h.1).mv c.act.toNat ω
 refine Be func36 rfl λB D0 hA0=>?_
 exact Ab 13 (Aw (Ey p c hp hc) (Ab 3 (Dy 9 (!bP (Ej p c)) false (by rw[(Cn h)];rfl) (Ab 8 (Aw (by have:=AiA p hp (Hv h.1) c.act.toNat (by have:=h.2.2.2.2;omega);rwa [show (c.act.toNat:Int)=c.act by have:=h.2.2.2.1;omega] at this) (Ab 5 (Cu)))))))
theorem Tw (p:Pr) (c:Cs) (hp:Lf p) (hc:Sh c) (h:Ej p c):AF Tryz.prog 37 [Hc p,Nt c] (.lit (.tuple #[.agg #[.int .i64 ((Al p c).x),.int .i64 ((Al p c).y),.int .i64 ((Al p c).z)],.int .i64 0])):=by
 have hv1:=h.2.1
 have hv2:=h.2.2.1
 have hv3:=h.2.2.2.1
 have hv4:=h.2.2.2.2
 have hmv:=(Hv h.1).mv c.act.toNat ω
 refine Be func37 rfl λB D0 hA0=>?_
 exact Ab 13 (Aw (Ey p c hp hc) (Ab 3 (Dy 9 (!bP (Ej p c)) false (by rw[(Cn h)];rfl) (Ab 4 (Dg [(4,Dx (Lv p.acts) (c.act).toNat,.none),(9,Dx (AaG ((p.acts.getD ((c.act).toNat) Ac.none).moves)) (c.craft).toNat,.none)] [4,5] ⟨Qw c.act (c.act).toNat p.acts.length,Qw c.craft (c.craft).toNat ((p.acts.getD ((c.act).toNat) Ac.none).moves.length),trivial⟩ (Ab 2 (Cu)))))))
noncomputable def AgO (p:Pr) (d:De):Prop:=Fv p=true/\Ev d
def Hs (p:Pr) (d:De):Int:=Fg p.acts p.acts.length+d.across+d.down
theorem fT (p:Pr) (hp:Lf p) (h:Fv p=true):AF Tryz.prog 35 [Hc p] (.lit (.tuple #[.int .i64 (Fg p.acts p.acts.length),.int .i64 0])):=by
 have ho:=Hv h
 have hac:=ho.acts
 refine Be func35 rfl λB D0 hA0=>?_
 refine Ab 11 (Aw (Kc p hp) (Ab 3 (Dy 9 (!Fv p) false (by rw[h];rfl) (Ab 18 (Vw [4,11,12,13] p.acts.length (λi=>True) (λi=>⟨[(4,.int (Fg p.acts i)),(11,Lv p.acts),(12,.int (p.acts.length:Int)),(13,.int (i:Int))],[(0,.box 26 [Nf p.names,Ts p.homes,Lv p.acts])],1,23⟩) trivial (λi hin hFi J1 hJ1=>?_))))))
 refine Ab 6 (He 14 ((i:Int)<(p.acts.length:Int)) (λhx1 hx1d=>?_) (λhx1 hx1d=>?_))
 ·
  refine Ab 5 ?_
  have he2:=ho.ends i ω
  have hl:=getD_in hp.lens i
  refine Ab 2 (Iz i p.acts.length (Ab 9 (Mm (.int .i64 (IntKind.wrap .i64 (Fg p.acts i+(p.acts.getD i Ac.none).len))) (.int .i64 (Fg p.acts (i+1))) ?_ (congrArg (Value.int .i64) ((IntWalk.i64_in _ (by have he3:=ho.ends (i+1) ω;rw[Fg] at he3;omega)).trans rfl)))))
  exact Ab 5 (Dm ((i:Int)+1) ((i+1:Nat):Int) (Ab 2 (Xx [4,11,12,13] [(0,0)] 1 0 hA0 [] trivial (hJ1 ω trivial))))
 ·
  exact Ab 14 (El (.lit (.tuple #[.int .i64 (Fg p.acts i),.int .i64 0])) (congrArg (λq=>AV.lit (.tuple #[.int .i64 (Fg p.acts q),.int .i64 0])) (show i=p.acts.length by omega)))
theorem Yf (p:Pr) (d:De) (hp:Lf p) (hd:Ru d) (h:AgO p d) (h0:0<p.acts.length) (h1:3600000<Hs p d):AF Tryz.prog 16 [Hc p,Jt d] (.lit (.tuple #[.int .i64 0,.int .i64 3])):=by
 have ho:=Hv h.1
 have hac:=ho.acts
 have hen:=ho.ends p.acts.length (Nat.le_refl _)
 have hd1:=h.2.1
 refine Be func16 rfl λB D0 hA0=>?_
 exact Ab 14 (Aw (Kc p hp) (Ab 4 (Dy 8 (!Fv p) false (by rw[h.1];rfl) (Ab 3 (Aw (Fw d hd) (Ab 4 (Dy 8 (!bP (Ev d)) false (by rw[(Cn h.2)];rfl) (Ab 7 (Dy 19 (decide ((p.acts.length:Int)=0)) false (decide_eq_false ω) (Ab 10 (Aw (fT p hp h.1) (Ab 13 (Dm (Fg p.acts p.acts.length+d.across) (Fg p.acts p.acts.length+d.across) (Ab 2 (Dm (Fg p.acts p.acts.length+d.across+d.down) (Fg p.acts p.acts.length+d.across+d.down) (Ab 1 (Dy 32 (decide ((3600000:Int)<Fg p.acts p.acts.length+d.across+d.down)) true (decide_eq_true (by unfold Hs at h1;omega)) (Ab 11 (Cu)))))))))))))))))))
theorem Jh (p:Pr) (d:De) (hp:Lf p) (hd:Ru d) (h:AgO p d) (h0:0<p.acts.length) (h1:Hs p d<=3600000):AF Tryz.prog 16 [Hc p,Jt d] (.lit (.tuple #[.int .i64 (Hs p d),.int .i64 0])):=by
 have ho:=Hv h.1
 have hac:=ho.acts
 have hen:=ho.ends p.acts.length (Nat.le_refl _)
 have hd1:=h.2.1
 refine Be func16 rfl λB D0 hA0=>?_
 exact Ab 14 (Aw (Kc p hp) (Ab 4 (Dy 8 (!Fv p) false (by rw[h.1];rfl) (Ab 3 (Aw (Fw d hd) (Ab 4 (Dy 8 (!bP (Ev d)) false (by rw[(Cn h.2)];rfl) (Ab 7 (Dy 19 (decide ((p.acts.length:Int)=0)) false (decide_eq_false ω) (Ab 10 (Aw (fT p hp h.1) (Ab 13 (Dm (Fg p.acts p.acts.length+d.across) (Fg p.acts p.acts.length+d.across) (Ab 2 (Dm (Fg p.acts p.acts.length+d.across+d.down) (Fg p.acts p.acts.length+d.across+d.down) (Ab 1 (Dy 32 (decide ((3600000:Int)<Fg p.acts p.acts.length+d.across+d.down)) false (decide_eq_false (by unfold Hs at h1;omega)) (Ab 10 (Dm (Fg p.acts p.acts.length+d.across) (Fg p.acts p.acts.length+d.across) (Ab 2 (Dm (Fg p.acts p.acts.length+d.across+d.down) (Fg p.acts p.acts.length+d.across+d.down) (Ab 5 (Cu)))))))))))))))))))))))
theorem Un (p:Pr) (d:De) (hp:Lf p) (_:Ru d) (h:AgO p d) (h0:0<p.acts.length):AF Tryz.prog 29 [Hc p,Jt d] (.int (Hs p d)):=by
 have ho:=Hv h.1
 have hac:=ho.acts
 have hen:=ho.ends p.acts.length (Nat.le_refl _)
 have hd1:=h.2.1
 refine Be func29 rfl λB D0 hA0=>?_
 exact Ab 8 (Dg [(4,.int ((p.acts.length-1:Nat):Int),.none),(5,_,.none),(8,.int (Fg p.acts p.acts.length+d.across),.none),(11,.int (Fg p.acts p.acts.length+d.across+d.down),.none)] [4] ⟨As (Bb (v:= .int .i64 (IntKind.wrap .i64 ((p.acts.length:Int)-1))) (v':= .int .i64 ((p.acts.length-1:Nat):Int)) _ κ rfl κ (λw=>by kernel_rfl) (congrArg (Value.int .i64) ((IntWalk.i64_in _ ω).trans ω))),Bu (by have:=mU p hp ho (p.acts.length-1) ω;rwa [show p.acts.length-1+1=p.acts.length by omega] at this),As (Bb (v:= .int .i64 (IntKind.wrap .i64 (Fg p.acts p.acts.length+d.across))) (v':= .int .i64 (Fg p.acts p.acts.length+d.across)) _ κ rfl κ (λw=>by kernel_rfl) (congrArg (Value.int .i64) ((IntWalk.i64_in _ ω).trans ω))),As (Bb (v:= .int .i64 (IntKind.wrap .i64 (Fg p.acts p.acts.length+d.across+d.down))) (v':= .int .i64 (Fg p.acts p.acts.length+d.across+d.down)) _ κ rfl κ (λw=>by kernel_rfl) (congrArg (Value.int .i64) ((IntWalk.i64_in _ ω).trans ω))),trivial⟩ (Ab 2 (Cu)))
theorem AjD {s:Sg} {a d:Int} (ho:s.o≠0) (hd:d≠0):plG s a d≠0:=by
 have h0:(mG s d).natAbs≠0:=by
  unfold mG
  rw[Int.natAbs_mul,Int.natAbs_pow]
  have h1:0<s.o.natAbs:=by omega
  have h2:0<d.natAbs^5:=Nat.pow_pos ω
  exact Nat.ne_of_gt (Nat.mul_pos h1 h2)
 have g:∀x y:Int,x.natAbs≠0->(Nat.gcd x.natAbs y.natAbs:Int).natAbs≠0:=λx y hx=>by
  rw[Int.natAbs_natCast]
  exact Nat.ne_of_gt (Nat.gcd_pos_of_pos_left _ ω)
 have h:=g _ (plZ s a d) (g _ (plY s a d) (g _ (plX s a d) h0))
 unfold plG
 omega
theorem Uz (s:Sg) (a d:Int) (hs:bS s) (ho:Jb s) (ha:Cc a) (hd:Cc d) (h0:d≠0):AF Tryz.prog 69 [Ef s,.int a,.int d] (lL (Ho s a d)):=
 Acx s a d hs ho.2.1.2.1 ho.2.2.1.2.1 ho.2.2.2.1.2.1 ha hd (AjD (by have:=ho.1.2.2.2.1;omega) h0)
def Nq (s u:Sg):Prop:=s.t=u.f/\Ho s 1 1=Ho u 0 1
instance (s u:Sg):Decidable (Nq s u):=by unfold Nq;infer_instance
def Er (l:List Sg):Prop:=(∀i,i<l.length->Jb (l.getD i Sg.none)/\(0<i->Nq (l.getD (i-1) Sg.none) (l.getD i Sg.none)))/\1<=l.length/\l.length<=256
instance (l:List Sg):Decidable (Er l):=by unfold Er;infer_instance
def Bj (l:List Sg):Prop:=l.length<=1000000/\∀i,bS (l.getD i Sg.none)
theorem Gn:Cc 0:=⟨δ,δ⟩
theorem Vk:Cc 1:=⟨δ,δ⟩
theorem nA (s u:Sg) (hs:bS s) (hu:bS u) (ho:Jb s) (hp:Jb u):AF Tryz.prog 82 [Ef s,Ef u] (.bool (bP (Nq s u))):=by
 refine Be func82 rfl λB D0 hA0=>?_
 refine Ab 8 (vsp (s.t=u.f) (λhx1 hx1d=>?_) (λhx1 hx1d=>?_))
 ·
  exact Dg [(4,.bool true,.none),(7,_,.none),(9,_,.none),(10,.bool (decide (Ho s 1 1=Ho u 0 1)),.none)] [4] ⟨xH hx1,Bu (Uz s 1 1 hs ho Vk Vk δ),Bu (Uz u 0 1 hu hp Gn Vk δ),As (Uf 96 96 (.tmp 12) (.tmp 14) κ _ _ κ κ κ (decide (Ho s 1 1=Ho u 0 1)) (AgC (Ho s 1 1) (Ho u 0 1))),trivial⟩ (Ab 2 (El (.bool (decide (Ho s 1 1=Ho u 0 1))) (congrArg AV.bool (if hz:Ho s 1 1=Ho u 0 1 then (decide_eq_true hz).trans (Cn ⟨by assumption,hz⟩).symm else (decide_eq_false hz).trans (Bf (λg=>hz g.2)).symm))))
 ·
  exact Dg [(4,.bool false,.none)] [4] ⟨xH hx1,trivial⟩ (Ab 2 (El (.bool false) (congrArg AV.bool (Bf (λg=>absurd g.1 (by assumption))).symm)))
theorem Lz (l:List Sg) (hl:Bj l):AF Tryz.prog 60 [Bq l] (.bool (bP (Er l))):=by
 have hln:=hl.1
 refine Be func60 rfl λB D0 hA0=>?_
 refine Ab 14 (Vw [0,5,6,7] l.length (λi=>∀q,q<i->Jb (l.getD q Sg.none)/\(0<q->Nq (l.getD (q-1) Sg.none) (l.getD q Sg.none))) (λi=>⟨[(0,Bq l),(5,Bq l),(6,.int ((l).length:Int)),(7,.int (i:Int))],[],0,38⟩) (λq hq=>absurd hq (Nat.not_lt_zero q)) (λi hin hFi J1 hJ1=>?_))
 refine Ab 6 (He 8 ((i:Int)<((l).length:Int)) (λhx1 hx1d=>?_) (λhx1 hx1d=>?_))
 ·
  refine Ab 8 (Iz i ((l).length) (Ab 7 (vsp (Jb (l.getD i Sg.none)) (λhx2 hx2d=>?_) (λhx2 hx2d=>?_))))
  ·
   refine vsp ((0:Int)<(i:Int)) (λhx3 hx3d=>?_) (λhx3 hx3d=>?_)
   ·
    refine Dg [(1,.bool true,.none),(5,.bool true,.none),(9,.int ((i-1:Nat):Int),.none),(10,Dx (Bq l) (i-1),.none),(13,_,.none)] [0,5,6,7,28] ⟨Vx hx2 (Bu (Sc (l.getD i Sg.none) (hl.2 i))),xH hx3,As (Bb (v:= .int .i64 (IntKind.wrap .i64 ((i:Int)-1))) (v':= .int .i64 ((i-1:Nat):Int)) _ κ rfl κ (λw=>by kernel_rfl) (congrArg (Value.int .i64) ((IntWalk.i64_in _ ω).trans ω))),Pc (i-1) ((l).length),Bu (nA _ _ (hl.2 (i-1)) (hl.2 i) (hFi (i-1) ω).1 (of_decide_eq_true (by assumption))),trivial⟩ (Ab 1 (Rx 28 (bP (Nq (l.getD (i-1) Sg.none) (l.getD i Sg.none))) (λhx4=>?_) (λhx4=>?_)))
    ·
     exact Ab 5 (Dm ((i:Int)+1) ((i+1:Nat):Int) (Ab 2 (Xx [0,5,6,7] [] 0 0 hA0 [] trivial (hJ1 ω (λq hq=>(Nat.lt_or_ge q i).elim (λg=>hFi q g) λg=>by have e:q=i:=(ω);subst e;exact⟨of_decide_eq_true hx2,λ_=>Fx hx4⟩)))))
    ·
     exact Ab 12 (El (.bool false) (congrArg AV.bool (Bf (by rintro⟨g1,g2,g3⟩;first|omega|exact Qo hx4 ((g1 i ω).2 ω)|exact absurd (g1 i ω).1 (of_decide_eq_false hx2))).symm))
   ·
    exact Dg [(1,.bool true,.none),(5,.bool false,.none)] [0,5,6,7,28] ⟨Vx hx2 (Bu (Sc (l.getD i Sg.none) (hl.2 i))),xH hx3,trivial⟩ (Ab 6 (Dm ((i:Int)+1) ((i+1:Nat):Int) (Ab 2 (Xx [0,5,6,7] [] 0 0 hA0 [] trivial (hJ1 ω (λq hq=>(Nat.lt_or_ge q i).elim (λg=>hFi q g) λg=>by have e:q=i:=(ω);subst e;exact⟨of_decide_eq_true hx2,λhz=>absurd hz ω⟩))))))
  ·
   exact Dg [(1,.bool false,.none)] [0,5,6,7,28] ⟨Vx hx2 (Bu (Sc (l.getD i Sg.none) (hl.2 i))),trivial⟩ (Ab 13 (El (.bool false) (congrArg AV.bool (Bf (by rintro⟨g1,g2,g3⟩;first|omega|exact absurd (g1 i ω).1 (of_decide_eq_false hx2))).symm)))
 ·
  refine Ab 12 (He 33 ((1:Int)<=((l).length:Int)) (λhx5 hx5d=>?_) (λhx5 hx5d=>?_))
  ·
   exact Ab 8 (El (.bool (decide (((l).length:Int)<=256))) (congrArg AV.bool (if hz:l.length<=256 then (decide_eq_true ω).trans (Cn ⟨λq hq=>hFi q ω,ω,ω⟩).symm else (decide_eq_false ω).trans (Bf (λg=>hz g.2.2)).symm)))
  ·
   exact Ab 8 (El (.bool false) (congrArg AV.bool (Bf (by rintro⟨g1,g2,g3⟩;first|omega)).symm))
theorem jY (l:List Int) (v:Value) (w:World) (h:Ce w 0 w.heap.size 1 v l.length (Di l)) (hl:0<l.length) (hm:l.length<=1000000):
  Calls Tryz.prog 105 #[v] w λe w'=>∃v',e= .returned v'/\Ce w' w.heap.size w'.heap.size 1 v' l.length (Di l)/\Below w.heap.size w w':=by
 obtain⟨i0,hi0,hz0,hz1,hz2⟩:=info_parts dG
 obtain⟨b,o,c,rfl,_,hb,hc⟩:=h.pos hl
 have hnil:=λW=>Lib.run_eql_slice_nil (P:=Tryz.prog) W 58 3 (some ⟨b,o,none⟩) l.length c 0 0 underlying58
 clear hc
 go_enter func105,ntmps105
 have hown:=Xh w [] 0 w.heap.size 1 3 rfl rfl δ
 have hs1:=h.up ((Below.refl w.heap.size w).alloc (Nat.le_refl _) (.cells #[] 3))
 go_wp2_with (at_builtin;refine Ex rfl (.tmp 5) (.tmp 6) 58 rfl w.heap.size 3 i0 _ 1 8 underlying58 hi0 hz0 hz1 hz2 rfl δ _ _ _ rfl hown _ _ _ _ rfl hs1 (dH l) ?_ ?_ ?_ ?_)
 · unfold maxLen;omega
 · omega
 · simp
 intro v' w1 hown1 hg1 hat1
 go_wp2
 go_ret
 refine⟨_,rfl,Ce.own hown1,((Below.refl _ _).alloc (Nat.le_refl _) _).grown hg1 (by simp) ?_⟩
 rintro j hj
 simp[Value.ownBlock] at hj
 omega
theorem Ep (l:List Int) (hl:0<l.length) (hm:l.length<=1000000):AF Tryz.prog 105 [Bn l] (Bn l):=Sb λE us hD hn hv=>by
 rw[xY hn]
 have h0:=hv 0 (by simp)
 have h1:Cy E.w E.D 1 (us.getD 0 undef) l.length (Di l):=AhH (E:=E.fz) h0
 refine(jY l _ E.w (h1.more λb hb=>⟨Nat.zero_le _,hD b hb⟩) hl hm).mono ?_
 rintro e w' ⟨v',rfl,hs,hb⟩
 exact⟨_,rfl,hb,λE' h1 h2 h3=>aQ hs h1 λb hb=>h3 b hb.1 hb.2⟩
def wD (l:List Sg):Prop:=∀i,i<l.length->(0<(l.getD i Sg.none).x.length/\(l.getD i Sg.none).x.length<=6)/\(0<(l.getD i Sg.none).y.length/\(l.getD i Sg.none).y.length<=6)/\(0<(l.getD i Sg.none).z.length/\(l.getD i Sg.none).z.length<=6)
theorem AfU (l:List Sg) (hn:l.length<=1000000) (hl:0<l.length) (hc:wD l):AF Tryz.prog 83 [Bq l] (Bq l):=by
 refine Be func83 rfl λB D0 hA0=>?_
 refine Ab 19 (vlp [3,6,7,8] (λm s=>∃i,i<=l.length/\m=l.length-i/\True/\((i=0/\s=⟨[(3,.lit (.slice none 0 0)),(6,Bq l),(7,.int ((l).length:Int)),(8,.int ((0:Nat):Int))],[],0,30⟩)\/(0<i/\s=⟨[(3,.osl 9 6 i),(6,Bq l),(7,.int ((l).length:Int)),(8,.int (i:Int))],[(9,.vec 60 6 i (λxi=>Ef (l.getD xi Sg.none)))],10,30⟩))) l.length ⟨0,Nat.zero_le _,rfl,trivial,.inl ⟨rfl,κ⟩⟩ ?_)
 rintro _ _ ⟨i,hin,rfl,hFi,(⟨hi0,rfl⟩|⟨hi0,rfl⟩)⟩ J1 hJ1
 ·
  subst hi0
  refine Ab 6 (He 9 (((0:Nat):Int)<((l).length:Int)) (λhx1 hx1d=>?_) (λhx1 hx1d=>?_))
  ·
   exact Ab 7 (Iz 0 ((l).length) (Ab 6 (Dg [(2,_,.none),(5,_,.none),(8,_,.none)] [3,5,6,7,8] ⟨Bu (Ep _ (hc 0 ω).1.1 (by have:=(hc 0 ω).1.2;omega)),Bu (Ep _ (hc 0 ω).2.1.1 (by have:=(hc 0 ω).2.1.2;omega)),Bu (Ep _ (hc 0 ω).2.2.1 (by have:=(hc 0 ω).2.2.2;omega)),trivial⟩ (Ab 4 (Bi (.osl 1 6 1) (.new 1 (.vec 60 6 1 (λ_=>Ef ((l).getD 0 Sg.none)))) (Au 45 1 #[(0,(.tmp 25))] κ underlying45 6 sizeOf60 _ zeroValue60 κ β β β 1 [.int (((l).getD 0 Sg.none).f),.int (((l).getD 0 Sg.none).t),.int (((l).getD 0 Sg.none).o),Bn (((l).getD 0 Sg.none).x),Bn (((l).getD 0 Sg.none).y),Bn (((l).getD 0 Sg.none).z)] κ (λ_=>Ef ((l).getD 0 Sg.none)) κ) (Bi (.osl 2 6 1) (.newr 1 2 (.vec 60 6 1 (λxi=>Ef (l.getD xi Sg.none)))) (Jp (.tmp 24) (.tmp 26) 45 κ underlying45 6 96 (.agg #[.int .i64 0,.int .i64 0,.int .i64 0,.slice none 0 0,.slice none 0 0,.slice none 0 0]) κ κ δ 1 ω (λ_=>Ef ((l).getD 0 Sg.none)) (λxi=>Ef (l.getD xi Sg.none)) 2 (λi hi=>by(obtain rfl:i=0:=(ω));rfl) (λi hi j hj=>match j,hj with|0,_=>rfl|1,_=>rfl|2,_=>rfl|3,_=>rfl|4,_=>rfl|5,_=>rfl|_+6,h=>absurd h ω) (by unfold maxLen;omega) ω κ 1 60 κ κ) (Ab 5 (Dm (((0:Nat):Int)+1) ((0+1:Nat):Int) (Ab 2 (Xx [3,6,7,8] [(2,9)] 10 0 hA0 [(60,6,1,(λ_=>Ef ((l).getD 0 Sg.none))),(60,6,1,(λxi=>Ef (l.getD xi Sg.none)))] ⟨(Fe λ_ _=>rfl),(Fe λ_ _=>rfl),trivial⟩ (hJ1 _ _ (by omega:l.length-(0+1)<l.length-0) ⟨0+1,ω,rfl,trivial,.inr ⟨Nat.succ_pos _,rfl⟩⟩)))))))))))
  ·
   exact Ab 13 (El (.lit (.slice none 0 0)) (by exfalso;omega))
 ·
  refine Ab 6 (He 9 ((i:Int)<((l).length:Int)) (λhx2 hx2d=>?_) (λhx2 hx2d=>?_))
  ·
   exact Ab 7 (Iz i ((l).length) (Ab 6 (Dg [(2,_,.none),(5,_,.none),(8,_,.none)] [3,5,6,7,8] ⟨Bu (Ep _ (hc i ω).1.1 (by have:=(hc i ω).1.2;omega)),Bu (Ep _ (hc i ω).2.1.1 (by have:=(hc i ω).2.1.2;omega)),Bu (Ep _ (hc i ω).2.2.1 (by have:=(hc i ω).2.2.2;omega)),trivial⟩ (Ab 4 (Bi (.osl 11 6 1) (.new 11 (.vec 60 6 1 (λ_=>Ef ((l).getD i Sg.none)))) (Au 45 1 #[(0,(.tmp 25))] κ underlying45 6 sizeOf60 _ zeroValue60 κ β β β 11 [.int (((l).getD i Sg.none).f),.int (((l).getD i Sg.none).t),.int (((l).getD i Sg.none).o),Bn (((l).getD i Sg.none).x),Bn (((l).getD i Sg.none).y),Bn (((l).getD i Sg.none).z)] κ (λ_=>Ef ((l).getD i Sg.none)) κ) (Bi (.osl 12 6 (i+1)) (.grow2 9 11 12 (.vec 60 6 (i+1) (λxi=>Ef (l.getD xi Sg.none)))) (Em (.tmp 24) (.tmp 26) 45 κ underlying45 6 96 (.agg #[.int .i64 0,.int .i64 0,.int .i64 0,.slice none 0 0,.slice none 0 0,.slice none 0 0]) κ κ δ i 1 ω (λxi=>Ef (l.getD xi Sg.none)) (λ_=>Ef ((l).getD i Sg.none)) (λxi=>Ef (l.getD xi Sg.none)) 12 ω (by unfold maxLen;omega) (λi hi=>rfl) (λi hi=>by(obtain rfl:i=0:=(ω));rfl) (λi hi j hj=>match j,hj with|0,_=>rfl|1,_=>rfl|2,_=>rfl|3,_=>rfl|4,_=>rfl|5,_=>rfl|_+6,h=>absurd h ω) 9 κ κ 11 60 κ κ) (Ab 5 (Dm ((i:Int)+1) ((i+1:Nat):Int) (Ab 2 (Xx [3,6,7,8] [(12,9)] 10 0 hA0 [(60,6,1,(λ_=>Ef ((l).getD i Sg.none))),(60,6,i+1,(λxi=>Ef (l.getD xi Sg.none)))] ⟨(Fe λ_ _=>rfl),(Fe λ_ _=>rfl),trivial⟩ (hJ1 _ _ (by omega:l.length-(i+1)<l.length-i) ⟨i+1,ω,rfl,trivial,.inr ⟨Nat.succ_pos _,rfl⟩⟩)))))))))))
  ·
   exact Ab 12 (AbI 9 [2] 60 6 i (λxi=>Ef (l.getD xi Sg.none)) (Fe λ_ _=>rfl) (Ab 1 (El (.sl 6 i (λxi=>Ef (l.getD xi Sg.none))) (congrArg (λq=>AV.sl 6 q λxi=>Ef (l.getD xi Sg.none)) (show i=l.length by omega)))))
theorem Xi {l:List Sg} (h:Er l):wD l:=λi hi=>by
 have h1:=(h.1 i hi).1
 exact⟨⟨h1.2.1.1,h1.2.1.2.1⟩,⟨h1.2.2.1.1,h1.2.2.1.2.1⟩,⟨h1.2.2.2.1.1,h1.2.2.2.1.2.1⟩⟩
theorem cV {l r:List Sg} (i:Nat):(l++r).getD i Sg.none=if i<l.length then l.getD i Sg.none else r.getD (i-l.length) Sg.none:=by
 simp only[List.getD_eq_getElem?_getD,List.getElem?_append]
 split<;>rfl
noncomputable def Dz (a b:List Sg):List Sg×Int:=
 if bP (Er a)=false\/bP (Er b)=false then ([],2) else if bP (Nq (a.getD (a.length-1) Sg.none) (b.getD 0 Sg.none))=false then ([],10) else if 256<a.length+b.length then ([],7) else (a++b,0)
theorem wK {a b:List Sg} (h:bP (Er a)=false\/bP (Er b)=false):Dz a b=([],2):=by unfold Dz;rw[if_pos h]
theorem zX {a b:List Sg} (h1:bP (Er a)=true) (h2:bP (Er b)=true) (h:bP (Nq (a.getD (a.length-1) Sg.none) (b.getD 0 Sg.none))=false):Dz a b=([],10):=by unfold Dz;rw[if_neg (by simp[h1,h2]),if_pos h]
theorem AcR {a b:List Sg} (h1:bP (Er a)=true) (h2:bP (Er b)=true) (h:bP (Nq (a.getD (a.length-1) Sg.none) (b.getD 0 Sg.none))=true) (h3:256<a.length+b.length):Dz a b=([],7):=by unfold Dz;rw[if_neg (by simp[h1,h2]),if_neg (λg=>by rw[h] at g;cases g),if_pos h3]
theorem jV {a b:List Sg} (h1:bP (Er a)=true) (h2:bP (Er b)=true) (h:bP (Nq (a.getD (a.length-1) Sg.none) (b.getD 0 Sg.none))=true) (h3:¬256<a.length+b.length):Dz a b=(a++b,0):=by unfold Dz;rw[if_neg (by simp[h1,h2]),if_neg (λg=>by rw[h] at g;cases g),if_neg h3]
def uJ (r:List Sg×Int):AV:=if r.2=0 then .tup [Bq r.1,.int 0] else .lit (.tuple #[.slice none 0 0,.int .i64 r.2])
theorem Xl {r:List Sg×Int} {e:Int} {l:List Sg} (h:r=(l,e)) (he:e≠0):uJ r= .lit (.tuple #[.slice none 0 0,.int .i64 e]):=by
 subst h;unfold uJ;rw[if_neg he]
theorem Ah0 {r:List Sg×Int} {l:List Sg} (h:r=(l,0)):uJ r= .tup [Bq l,.int 0]:=by
 subst h;unfold uJ;rw[if_pos rfl]
theorem fQ (a b:List Sg) (ha:Bj a) (hb:Bj b):AF Tryz.prog 59 [Bq a,Bq b] (uJ (Dz a b)):=by
 have han:=ha.1
 have hbn:=hb.1
 refine Be func59 rfl λB D0 hA0=>?_
 refine Ab 11 (Aw (Lz a ha) (Ab 2 (Rx 10 (bP (Er a)) (λhx1=>?_) (λhx1=>?_))))
 ·
  have hx1l:=(Fx hx1).2
  have hac:=Xi (Fx hx1)
  refine Ab 1 (Aw (Lz b hb) (Ab 5 (Rx 6 (bP (Er b)) (λhx2=>?_) (λhx2=>?_))))
  ·
   have hx2l:=(Fx hx2).2
   refine Ab 2 (Dg [(3,.int (((a).length-1:Nat):Int),.none),(4,Dx (Bq a) ((a).length-1),.none),(7,Dx (Bq b) 0,.none),(9,_,.none)] [0,1,15] ⟨As (Bb (v:= .int .i64 (IntKind.wrap .i64 (((a).length:Int)-1))) (v':= .int .i64 (((a).length-1:Nat):Int)) _ κ rfl κ (λw=>by kernel_rfl) (congrArg (Value.int .i64) ((IntWalk.i64_in _ ω).trans ω))),Pc ((a).length-1) ((a).length),Pc 0 ((b).length),Bu (nA (a.getD (a.length-1) Sg.none) (b.getD 0 Sg.none) (ha.2 _) (hb.2 _) ((Fx hx1).1 _ ω).1 ((Fx hx2).1 0 ω).1),trivial⟩ (Ab 1 (Rx 15 (bP (Nq (a.getD (a.length-1) Sg.none) (b.getD 0 Sg.none))) (λhx3=>?_) (λhx3=>?_))))
   ·
    refine Ab 7 (Dm (((a).length:Int)+((b).length:Int)) (((a).length+(b).length:Nat):Int) (Ab 4 (He 27 ((256:Int)<(((a).length+(b).length:Nat):Int)) (λhx4 hx4d=>?_) (λhx4 hx4d=>?_))))
    ·
     exact Ab 10 (El (.lit (.tuple #[.slice none 0 0,.int .i64 7])) (Xl (AcR hx1 hx2 hx3 ω) δ).symm)
    ·
     refine Ab 7 (vH 0 func83 (λ_ hD5=>?_))
     refine Ab 19 (vlp [3,6,7,8] (λm s=>∃i,i<=a.length/\m=a.length-i/\True/\((i=0/\s=⟨[(3,.lit (.slice none 0 0)),(6,Bq a),(7,.int ((a).length:Int)),(8,.int ((0:Nat):Int))],[],0,30⟩)\/(0<i/\s=⟨[(3,.osl 9 6 i),(6,Bq a),(7,.int ((a).length:Int)),(8,.int (i:Int))],[(9,.vec 60 6 i (λxi=>Ef (a.getD xi Sg.none)))],10,30⟩))) a.length ⟨0,Nat.zero_le _,rfl,trivial,.inl ⟨rfl,κ⟩⟩ ?_)
     rintro _ _ ⟨i,hin,rfl,hFi,(⟨hi0,rfl⟩|⟨hi0,rfl⟩)⟩ J1 hJ1
     ·
      subst hi0
      refine Ab 6 (He 9 (((0:Nat):Int)<((a).length:Int)) (λhx6 hx6d=>?_) (λhx6 hx6d=>?_))
      ·
       exact Ab 7 (Iz 0 ((a).length) (Ab 6 (Dg [(2,_,.none),(5,_,.none),(8,_,.none)] [3,5,6,7,8] ⟨Bu (Ep _ (hac 0 ω).1.1 (by have:=(hac 0 ω).1.2;omega)),Bu (Ep _ (hac 0 ω).2.1.1 (by have:=(hac 0 ω).2.1.2;omega)),Bu (Ep _ (hac 0 ω).2.2.1 (by have:=(hac 0 ω).2.2.2;omega)),trivial⟩ (Ab 4 (Bi (.osl 1 6 1) (.new 1 (.vec 60 6 1 (λ_=>Ef ((a).getD 0 Sg.none)))) (Au 45 1 #[(0,(.tmp 25))] κ underlying45 6 sizeOf60 _ zeroValue60 κ β β β 1 [.int (((a).getD 0 Sg.none).f),.int (((a).getD 0 Sg.none).t),.int (((a).getD 0 Sg.none).o),Bn (((a).getD 0 Sg.none).x),Bn (((a).getD 0 Sg.none).y),Bn (((a).getD 0 Sg.none).z)] κ (λ_=>Ef ((a).getD 0 Sg.none)) κ) (Bi (.osl 2 6 1) (.newr 1 2 (.vec 60 6 1 (λxi=>Ef (a.getD xi Sg.none)))) (Jp (.tmp 24) (.tmp 26) 45 κ underlying45 6 96 (.agg #[.int .i64 0,.int .i64 0,.int .i64 0,.slice none 0 0,.slice none 0 0,.slice none 0 0]) κ κ δ 1 ω (λ_=>Ef ((a).getD 0 Sg.none)) (λxi=>Ef (a.getD xi Sg.none)) 2 (λi hi=>by(obtain rfl:i=0:=(ω));rfl) (λi hi j hj=>match j,hj with|0,_=>rfl|1,_=>rfl|2,_=>rfl|3,_=>rfl|4,_=>rfl|5,_=>rfl|_+6,h=>absurd h ω) (by unfold maxLen;omega) ω κ 1 60 κ κ) (Ab 5 (Dm (((0:Nat):Int)+1) ((0+1:Nat):Int) (Ab 2 (Xx [3,6,7,8] [(2,9)] 10 0 hD5 [(60,6,1,(λ_=>Ef ((a).getD 0 Sg.none))),(60,6,1,(λxi=>Ef (a.getD xi Sg.none)))] ⟨(Fe λ_ _=>rfl),(Fe λ_ _=>rfl),trivial⟩ (hJ1 _ _ (by omega:a.length-(0+1)<a.length-0) ⟨0+1,ω,rfl,trivial,.inr ⟨Nat.succ_pos _,rfl⟩⟩)))))))))))
      ·
       refine Ab 6 ?_
       exfalso;omega
     ·
      refine Ab 6 (He 9 ((i:Int)<((a).length:Int)) (λhx7 hx7d=>?_) (λhx7 hx7d=>?_))
      ·
       exact Ab 7 (Iz i ((a).length) (Ab 6 (Dg [(2,_,.none),(5,_,.none),(8,_,.none)] [3,5,6,7,8] ⟨Bu (Ep _ (hac i ω).1.1 (by have:=(hac i ω).1.2;omega)),Bu (Ep _ (hac i ω).2.1.1 (by have:=(hac i ω).2.1.2;omega)),Bu (Ep _ (hac i ω).2.2.1 (by have:=(hac i ω).2.2.2;omega)),trivial⟩ (Ab 4 (Bi (.osl 11 6 1) (.new 11 (.vec 60 6 1 (λ_=>Ef ((a).getD i Sg.none)))) (Au 45 1 #[(0,(.tmp 25))] κ underlying45 6 sizeOf60 _ zeroValue60 κ β β β 11 [.int (((a).getD i Sg.none).f),.int (((a).getD i Sg.none).t),.int (((a).getD i Sg.none).o),Bn (((a).getD i Sg.none).x),Bn (((a).getD i Sg.none).y),Bn (((a).getD i Sg.none).z)] κ (λ_=>Ef ((a).getD i Sg.none)) κ) (Bi (.osl 12 6 (i+1)) (.grow2 9 11 12 (.vec 60 6 (i+1) (λxi=>Ef (a.getD xi Sg.none)))) (Em (.tmp 24) (.tmp 26) 45 κ underlying45 6 96 (.agg #[.int .i64 0,.int .i64 0,.int .i64 0,.slice none 0 0,.slice none 0 0,.slice none 0 0]) κ κ δ i 1 ω (λxi=>Ef (a.getD xi Sg.none)) (λ_=>Ef ((a).getD i Sg.none)) (λxi=>Ef (a.getD xi Sg.none)) 12 ω (by unfold maxLen;omega) (λi hi=>rfl) (λi hi=>by(obtain rfl:i=0:=(ω));rfl) (λi hi j hj=>match j,hj with|0,_=>rfl|1,_=>rfl|2,_=>rfl|3,_=>rfl|4,_=>rfl|5,_=>rfl|_+6,h=>absurd h ω) 9 κ κ 11 60 κ κ) (Ab 5 (Dm ((i:Int)+1) ((i+1:Nat):Int) (Ab 2 (Xx [3,6,7,8] [(12,9)] 10 0 hD5 [(60,6,1,(λ_=>Ef ((a).getD i Sg.none))),(60,6,i+1,(λxi=>Ef (a.getD xi Sg.none)))] ⟨(Fe λ_ _=>rfl),(Fe λ_ _=>rfl),trivial⟩ (hJ1 _ _ (by omega:a.length-(i+1)<a.length-i) ⟨i+1,ω,rfl,trivial,.inr ⟨Nat.succ_pos _,rfl⟩⟩)))))))))))
      ·
       refine Ab 6 ?_
       have hie:i=a.length:=by omega
       subst hie
       exact Ab 7 (Ux (Ab 1 (Aw (AfU b hbn ω (Xi (Fx hx2))) (Bi (.osl 10 6 (a.length+(b).length)) (.grow 9 10 (.vec 60 6 (a.length+(b).length) (λxi=>Ef ((a++b).getD xi Sg.none)))) (Ow (.tmp 35) (.tmp 37) 45 κ underlying45 6 96 (.agg #[.int .i64 0,.int .i64 0,.int .i64 0,.slice none 0 0,.slice none 0 0,.slice none 0 0]) κ κ δ a.length ((b).length) ω (λxi=>Ef (a.getD xi Sg.none)) (λi0=>Ef ((b).getD i0 Sg.none)) (λxi=>Ef ((a++b).getD xi Sg.none)) 10 ω (by unfold maxLen;omega) (λi hi=>by show Ef _=Ef _;rw[cV,if_pos hi]) (λi hi=>by show Ef _=Ef _;rw[cV,if_neg ω,Nat.add_sub_cancel_left]) (λi hi j hj=>match j,hj with|0,_=>rfl|1,_=>rfl|2,_=>rfl|3,_=>rfl|4,_=>rfl|5,_=>rfl|_+6,h=>absurd h ω) 9 κ κ κ) (Ab 4 (AbI 10 [4] 60 6 (a.length+(b).length) (λxi=>Ef ((a++b).getD xi Sg.none)) (Fe λ_ _=>rfl) (Ab 1 (El (.tup [.sl 6 (a.length+(b).length) (λxi=>Ef ((a++b).getD xi Sg.none)),.int 0]) ((Ah0 (jV hx1 hx2 hx3 ω)).trans (congrArg (λq=>AV.tup [AV.sl 6 q λxi=>Ef ((a++b).getD xi Sg.none),.int 0]) List.length_append)).symm))))))))
   ·
    exact Ab 10 (El (.lit (.tuple #[.slice none 0 0,.int .i64 10])) (Xl (zX hx1 hx2 hx3) δ).symm)
  ·
   exact Ab 10 (El (.lit (.tuple #[.slice none 0 0,.int .i64 2])) (Xl (wK (.inr hx2)) δ).symm)
 ·
  exact Ab 17 (El (.lit (.tuple #[.slice none 0 0,.int .i64 2])) (Xl (wK (.inl hx1)) δ).symm)
abbrev Aip (t:Int):AV:= .elt 1 λxi=>[AV.int t].getD (0+xi) .top
abbrev Aio (l:List Sg):AV:= .elt 1 λxi=>[Bq l].getD (0+xi) .top
theorem yX (l:List Sg) (t:Int) (k:Nat) (hk:k<l.length) (_:l.length<=1000000):AF Tryz.prog 68 [.int (k:Int),Aip t,Aio l] (.bool (decide (t<=(l.getD k Sg.none).t))):=by
 refine Be func68 rfl λB D0 hA0=>?_
 exact Ab 6 (Dg [(3,Dx (Bq l) k,.none)] [4] ⟨Pc k ((l).length),trivial⟩ (Ab 2 (Cu)))
theorem zK (l:List Sg) (t:Int) (hn:l.length<=1000000) (i0:Nat) (hi0:i0<=l.length) (h1:∀j,j<i0->(l.getD j Sg.none).t<t) (h2:∀j,i0<=j->j<l.length->t<=(l.getD j Sg.none).t):AF Tryz.prog 67 [.int (l.length:Int),.fn 68 [Aip t,Aio l]] (.int ((i0:Nat):Int)):=by
 refine Be func67 rfl λB D0 hA0=>?_
 refine Ab 14 (vlp [1,5,6] (λm s=>∃i j,m=j-i/\(i<=i0/\i0<=j/\j<=l.length)/\s=⟨[(1,.fn 68 [.elt 1 (λxi=>[.int t].getD (0+xi) .top),.elt 1 (λxi=>[Bq l].getD (0+xi) .top)]),(5,.int (i:Int)),(6,.int (j:Int))],[],0,26⟩) (l.length-0) ⟨0,l.length,rfl,⟨Nat.zero_le _,hi0,Nat.le_refl _⟩,κ⟩ ?_)
 rintro _ _ ⟨i,j,rfl,hF,rfl⟩ J1 hJ1
 refine Ab 8 (He 11 ((i:Int)<(j:Int)) (λhx1 hx1d=>?_) (λhx1 hx1d=>?_))
 ·
  refine Ab 8 (Dm ((i:Int)+(j:Int)) ((i+j:Nat):Int) (Mm (.int .u64 (IntKind.wrap .u64 ((i+j:Nat):Int))) (.int .u64 ((i+j:Nat):Int)) ?_ (congrArg (Value.int .u64) (IntWalk.u64_in _ ω))))
  refine Mm (.int .u64 (Int.fdiv ((i+j:Nat):Int) (2^1))) (.int .u64 (((i+j)/2:Nat):Int)) ?_ (congrArg (Value.int .u64) (by rw[Int.fdiv_eq_ediv_of_nonneg _ δ];omega))
  refine Mm (.int .i64 (IntKind.wrap .i64 (((i+j)/2:Nat):Int))) (.int .i64 (((i+j)/2:Nat):Int)) ?_ (congrArg (Value.int .i64) (IntWalk.i64_in _ ω))
  refine Ab 7 (AbF (yX l t ((i+j)/2) ω hn) (Ab 3 (Xy 21 (t<=(l.getD ((i+j)/2) Sg.none).t) (λhx2 hx2d=>?_) (λhx2 hx2d=>?_))))
  ·
   have hq:i0<=(i+j)/2:=Nat.le_of_not_lt λhz=>by have g:=h1 _ hz;omega
   exact Ab 6 (eX [1,5,6] (hJ1 _ _ (by omega:((i+j)/2)-i<j-i) ⟨i,(i+j)/2,rfl,⟨ω,ω,ω⟩,rfl⟩))
  ·
   have hq:(i+j)/2<i0:=Nat.lt_of_not_le λhz=>by have g:=h2 _ hz ω;omega
   exact Ab 3 (Dm ((((i+j)/2:Nat):Int)+1) (((i+j)/2+1:Nat):Int) (Ab 3 (eX [1,5,6] (hJ1 _ _ (by omega:j-((i+j)/2+1)<j-i) ⟨(i+j)/2+1,j,rfl,⟨ω,ω,ω⟩,rfl⟩))))
 ·
  exact Ab 13 (El (.int (i:Int)) (congrArg (λq:Nat=>AV.int (q:Int)) (show i=i0 by omega)))
theorem Agf (l:List Sg) (hl:Bj l) (ho:Er l):AF Tryz.prog 66 [Bq l] (.lit (.tuple #[.int .i64 ((l.getD 0 Sg.none).f),.int .i64 ((l.getD (l.length-1) Sg.none).t),.int .i64 0])):=by
 have hln:=hl.1
 have hlo:=ho.2
 refine Be func66 rfl λB D0 hA0=>?_
 exact Ab 11 (Aw (Lz l hl) (Ab 3 (Dy 7 (!bP (Er l)) false (by rw[(Cn ho)];rfl) (Ab 4 (Dg [(1,Dx (Bq l) 0,.none),(7,.int (((l).length-1:Nat):Int),.none),(8,Dx (Bq l) ((l).length-1),.none)] [2,3,4] ⟨Pc 0 ((l).length),As (Bb (v:= .int .i64 (IntKind.wrap .i64 (((l).length:Int)-1))) (v':= .int .i64 (((l).length-1:Nat):Int)) _ κ rfl κ (λw=>by kernel_rfl) (congrArg (Value.int .i64) ((IntWalk.i64_in _ ω).trans ω))),Pc ((l).length-1) ((l).length),trivial⟩ (Ab 2 (Cu)))))))
abbrev Fu (l:List Sg) (t:Int) (i0:Nat):PL:=(Ho (l.getD i0 Sg.none) (t-(l.getD i0 Sg.none).f) ((l.getD i0 Sg.none).t-(l.getD i0 Sg.none).f))
theorem Ach (l:List Sg) (hl:Bj l) (ho:Er l) (t:Int) (ht:(l.getD 0 Sg.none).f<=t/\t<=(l.getD (l.length-1) Sg.none).t) (i0:Nat) (hi0:i0<l.length) (h1:∀j,j<i0->(l.getD j Sg.none).t<t) (h2:∀j,i0<=j->j<l.length->t<=(l.getD j Sg.none).t) (h3:(l.getD i0 Sg.none).f<=t):AF Tryz.prog 39 [Bq l,.int t] (.lit (.tuple #[.agg #[.bool (decide ((Fu l t i0).x<0)),.string (Dd ((Fu l t i0).x).natAbs),.bool (decide ((Fu l t i0).y<0)),.string (Dd ((Fu l t i0).y).natAbs),.bool (decide ((Fu l t i0).z<0)),.string (Dd ((Fu l t i0).z).natAbs),.bool (decide ((Fu l t i0).o<0)),.string (Dd ((Fu l t i0).o).natAbs)],.int .i64 0])):=by
 have hln:=hl.1
 have hs:=(ho.1 i0 hi0).1
 have hh:=hs.1
 unfold Ql at hh
 have h4:=h2 i0 (Nat.le_refl _) hi0
 refine Be func39 rfl λB D0 hA0=>?_
 exact Ab 11 (Aw (Agf l hl ho) (Ab 24 (Dy 24 (decide (t<(l.getD 0 Sg.none).f)) false (decide_eq_false ω) (Ab 4 (Dy 28 (decide ((l.getD (l.length-1) Sg.none).t<t)) false (decide_eq_false ω) (Ab 8 (rA 0 (rA 1 (Ab 1 (Dg [(4,_,.none),(5,Dx (Bq l) i0,.none)] [3,4,9] ⟨Bu (zK l t hln i0 ω h1 h2),Pc i0 ((l).length),trivial⟩ (Ab 7 (Dm (t-((l).getD i0 Sg.none).f) (t-((l).getD i0 Sg.none).f) (Ab 4 (Dm (((l).getD i0 Sg.none).t-((l).getD i0 Sg.none).f) (((l).getD i0 Sg.none).t-((l).getD i0 Sg.none).f) (Aw (Uz (l.getD i0 Sg.none) (t-((l).getD i0 Sg.none).f) (((l).getD i0 Sg.none).t-((l).getD i0 Sg.none).f) (hl.2 i0) hs ⟨ω,ω⟩ ⟨ω,ω⟩ ω) (Ab 5 (Cu)))))))))))))))))
theorem AeL {s:Sg} {a d:Int} (hs:bS s) (ho:Jb s) (ha:Cc a) (hd:Cc d):Bd 390 (Ho s a d).x/\Bd 390 (Ho s a d).y/\Bd 390 (Ho s a d).z/\Bd 390 (Ho s a d).o:=
 ⟨((Vp hs.x ha hd _ ho.2.1.2.1).mono (by have:=ho.2.1.2.1;omega)).div _,((Vp hs.y ha hd _ ho.2.2.1.2.1).mono (by have:=ho.2.2.1.2.1;omega)).div _,((Vp hs.z ha hd _ ho.2.2.2.1.2.1).mono (by have:=ho.2.2.2.1.2.1;omega)).div _,((AeK hs hd).mono ω).div _⟩
abbrev rdL (p:PL):V3:=⟨(p.x+p.x+p.o)/(p.o+p.o),(p.y+p.y+p.o)/(p.o+p.o),(p.z+p.z+p.o)/(p.o+p.o)⟩
theorem jO (z:Int) (h:Cc z):AF Tryz.prog 40 [WA z] (.lit (.tuple #[.int .i64 z,.int .i64 0])):=by
 have:=nH z (Gi h.1 h.2)
 unfold iR iE at this
 rwa [if_pos h,if_pos h] at this
theorem Aig (l:List Sg) (hl:Bj l) (ho:Er l) (t:Int) (ht:(l.getD 0 Sg.none).f<=t/\t<=(l.getD (l.length-1) Sg.none).t) (i0:Nat) (hi0:i0<l.length) (h1:∀j,j<i0->(l.getD j Sg.none).t<t) (h2:∀j,i0<=j->j<l.length->t<=(l.getD j Sg.none).t) (h3:(l.getD i0 Sg.none).f<=t)
  (hO:(Fu l t i0).o+(Fu l t i0).o≠0) (hx:Cc (rdL (Fu l t i0)).x) (hy:Cc (rdL (Fu l t i0)).y) (hz:Cc (rdL (Fu l t i0)).z):AF Tryz.prog 18 [Bq l,.int t] (.lit (.tuple #[.agg #[.int .i64 (rdL (Fu l t i0)).x,.int .i64 (rdL (Fu l t i0)).y,.int .i64 (rdL (Fu l t i0)).z],.int .i64 0])):=by
 have hs:=(ho.1 i0 hi0).1
 have hh:=hs.1
 unfold Ql at hh
 have h4:=h2 i0 (Nat.le_refl _) hi0
 obtain⟨bx,by_,bz,bo⟩:=AeL (s:=l.getD i0 Sg.none) (a:=t-(l.getD i0 Sg.none).f) (d:=(l.getD i0 Sg.none).t-(l.getD i0 Sg.none).f) (hl.2 i0) hs ⟨ω,ω⟩ ⟨ω,ω⟩
 refine Be func18 rfl λB D0 hA0=>?_
 exact Ab 10 (Aw (Ach l hl ho t ht i0 hi0 h1 h2 h3) (Ab 37 (vul 3 (Ab 14 (Mm (Ar ((Fu l t i0).x)) (Ar ((Fu l t i0).x)) (Ab 5 (Dg [(3,_,.none),(6,_,.none),(11,_,.none),(12,_,.none),(13,_,.none),(17,.ptr 2 0,.none)] [4,6,8,27,28] ⟨Bu (Iv _ _ (bx.fit ω) (bx.fit ω) ((bx.add bx).fit ω)),Bu (Iv _ _ ((bx.add bx).fit ω) (bo.fit ω) (((bx.add bx).add (bo.mono ω)).fit ω)),Bu (Iv _ _ (bo.fit ω) (bo.fit ω) ((bo.add bo).fit ω)),Bu (Qg _ _ (((bx.add bx).add (bo.mono ω)).fit ω) ((bo.add bo).fit ω) hO),Bu (jO _ hx),As (Ao 99 (.tmp 8) (.tmp 33) κ underlying99 2 0 1 0 0 κ κ sizeOf3 δ ω δ),trivial⟩ (Ab 3 (Mm (.int .i64 1) (.int .i64 1) (Ab 17 (Mm (Ar ((Fu l t i0).y)) (Ar ((Fu l t i0).y)) (Ab 5 (Dg [(3,_,.none),(6,_,.none),(11,_,.none),(12,_,.none),(13,_,.none),(17,.ptr 2 1,.none)] [4,6,8,27,28] ⟨Bu (Iv _ _ (by_.fit ω) (by_.fit ω) ((by_.add by_).fit ω)),Bu (Iv _ _ ((by_.add by_).fit ω) (bo.fit ω) (((by_.add by_).add (bo.mono ω)).fit ω)),Bu (Iv _ _ (bo.fit ω) (bo.fit ω) ((bo.add bo).fit ω)),Bu (Qg _ _ (((by_.add by_).add (bo.mono ω)).fit ω) ((bo.add bo).fit ω) hO),Bu (jO _ hy),As (Ao 99 (.tmp 8) (.tmp 33) κ underlying99 2 0 1 1 1 κ κ sizeOf3 δ ω δ),trivial⟩ (Ab 3 (Mm (.int .i64 2) (.int .i64 2) (Ab 17 (Mm (Ar ((Fu l t i0).z)) (Ar ((Fu l t i0).z)) (Ab 5 (Dg [(3,_,.none),(6,_,.none),(11,_,.none),(12,_,.none),(13,_,.none),(17,.ptr 2 2,.none)] [4,6,8,27,28] ⟨Bu (Iv _ _ (bz.fit ω) (bz.fit ω) ((bz.add bz).fit ω)),Bu (Iv _ _ ((bz.add bz).fit ω) (bo.fit ω) (((bz.add bz).add (bo.mono ω)).fit ω)),Bu (Iv _ _ (bo.fit ω) (bo.fit ω) ((bo.add bo).fit ω)),Bu (Qg _ _ (((bz.add bz).add (bo.mono ω)).fit ω) ((bo.add bo).fit ω) hO),Bu (jO _ hz),As (Ao 99 (.tmp 8) (.tmp 33) κ underlying99 2 0 1 2 2 κ κ sizeOf3 δ ω δ),trivial⟩ (Ab 3 (Mm (.int .i64 3) (.int .i64 3) (Ab 17 (Bi (.ptr 2 0) .none (Ao 99 (.tmp 8) (.const (.int .i64 0)) κ underlying99 2 0 1 0 0 κ κ sizeOf3 δ ω δ) (Ab 1 (Bi (.ptr 2 1) .none (Ao 99 (.tmp 8) (.const (.int .i64 1)) κ underlying99 2 0 1 1 1 κ κ sizeOf3 δ ω δ) (Ab 1 (Bi (.ptr 2 2) .none (Ao 99 (.tmp 8) (.const (.int .i64 2)) κ underlying99 2 0 1 2 2 κ κ sizeOf3 δ ω δ) (Ab 7 (Cu)))))))))))))))))))))))))))))
def Es (a b:V3) (f t k:Int):List Sg×Int:=if Sv a b f t=true then ([Ov a b f t k],0) else ([],2)
theorem wZ (a b:V3) (f t k:Int):Aar a b f t k= .tup [Bq (Es a b f t k).1,.int (Es a b f t k).2]:=by unfold Aar Es;split<;>rfl
theorem Sx {a b:V3} {f t k:Int} (h:(Es a b f t k).2=0):0<(Es a b f t k).1.length:=by
 unfold Es at*
 split at h
 rename_i hf;rw[if_pos hf];exact Nat.one_pos
 cases h
theorem Jr (a b:V3) (f t:Int):AF Tryz.prog 31 [Bs a,Bs b,.int f,.int t] (.tup [Bq (Es a b f t 2).1,.int (Es a b f t 2).2]):=by rw[<-wZ];exact Acl a b f t
theorem It (a:V3) (f t:Int):AF Tryz.prog 33 [Bs a,.int f,.int t] (.tup [Bq (Es a a f t 0).1,.int (Es a a f t 0).2]):=by rw[<-wZ];exact Acm a f t
theorem jW {a b:List Sg} (ha:0<a.length) (h:(Dz a b).2=0):0<(Dz a b).1.length:=by
 unfold Dz at*
 split at h
 cases h
 rename_i h1
 split at h
 cases h
 rename_i h2
 split at h
 cases h
 rename_i h3
 rw[if_neg h1,if_neg h2,if_neg h3]
 simp;omega
theorem Kb (a b:List Sg) (ha:Bj a) (hb:Bj b) (h:(Dz a b).2=0):AF Tryz.prog 59 [Bq a,Bq b] (.tup [Bq (Dz a b).1,.int 0]):=by
 have:=fQ a b ha hb
 unfold uJ at this
 rwa [if_pos h] at this
theorem La (a b:List Sg) (ha:Bj a) (hb:Bj b) (h:¬(Dz a b).2=0):AF Tryz.prog 59 [Bq a,Bq b] (.lit (.tuple #[.slice none 0 0,.int .i64 (Dz a b).2])):=by
 have:=fQ a b ha hb
 unfold uJ at this
 rwa [if_neg h] at this
theorem Bj.nil:Bj []:=⟨δ,λi=>by simp[Sg.none];exact⟨Gn,Gn,Gn,λ_=>by simpa using Gn,λ_=>by simpa using Gn,λ_=>by simpa using Gn⟩⟩
theorem Bj.app {a b:List Sg} (ha:Bj a) (hb:Bj b):Bj (Dz a b).1:=by
 unfold Dz
 split
 exact Bj.nil
 rename_i h1
 split
 exact Bj.nil
 split
 exact Bj.nil
 rename_i h3
 refine⟨by simp;omega,λi=>?_⟩
 show bS ((a++b).getD i Sg.none)
 rw[cV]
 split
 exact ha.2 i
 exact hb.2 _
theorem eG {a b:Int} (ha: -1048576<=a/\a<=1048576) (hb: -1048576<=b/\b<=1048576) {k:Int} (i:Nat):Cc ((Ds a b (Cf k)).getD i 0):=by
 have key:∀x,x∈Ds a b (Cf k)->Cc x:=λx hx=>by
  unfold Ds at hx
  rcases List.mem_cons.1 hx with rfl|hx
  exact⟨ω,ω⟩
  split at hx
  cases hx
  obtain⟨y,hy,rfl⟩:=List.mem_map.1 hx
  have hy2: -100<=y/\y<=100:=by
   unfold Cf at hy
   split at hy
   cases hy
   split at hy
   have:y=1:=by simpa using hy
   omega
   simp at hy;omega
  have:=iL y (b-a) hy2 ω
  exact⟨ω,ω⟩
 rw[List.getD_eq_getElem?_getD]
 cases h:(Ds a b (Cf k))[i]? with
 |none=>exact Gn
 |some x=>exact key x (List.mem_of_getElem? h)
theorem Dp (a b:V3) (f t k:Int):Bj (Es a b f t k).1:=by
 unfold Es
 split
 rename_i h
 have h2:Hr a.x a.y a.z b.x b.y b.z f t=true:=h
 unfold Hr at h2
 simp only[Bool.and_eq_true,decide_eq_true_eq] at h2
 obtain⟨⟨⟨⟨p1,p2⟩,p3⟩,p4⟩,p5⟩:=h2
 have q1:=(Mg _ _ _).1 p1
 have q2:=(Mg _ _ _).1 p2
 refine⟨by simp,λi=>?_⟩
 cases i with
 |zero=>exact⟨⟨by show (_:Int)<=f;omega,by show f<=_;omega⟩,⟨by show (_:Int)<=t;omega,by show t<=_;omega⟩,Vk,λi=>eG q1.1 q2.1 i,λi=>eG q1.2.1 q2.2.1 i,λi=>eG q1.2.2 q2.2.2 i⟩
 |succ i=>exact Bj.nil.2 i
 exact Bj.nil
noncomputable def Jc (s:Option (List Sg)×Int) (g:List Sg×Int):Option (List Sg)×Int:=
 if s.2=0 then (if g.2=0 then (match s.1 with|none=>(some g.1,0)|some q=>if (Dz q g.1).2=0 then (some (Dz q g.1).1,0) else (none,(Dz q g.1).2)) else (s.1,g.2)) else s
def Hg (a s:V3):V3:=⟨a.x+s.x,a.y+s.y,a.z⟩
def Gv (a s:V3) (g:Int):V3:=⟨a.x+s.x,a.y+s.y,g⟩
noncomputable def Pz (st:Option (List Sg)×Int) (off low:V3) (t dn u:Int):Option (List Sg)×Int:=
 if t+dn<u then Jc (Jc st (Es off low t (t+dn) 2)) (Es low low (t+dn) u 0) else Jc st (Es off low t (t+dn) 2)
noncomputable def Rk (a s:V3) (g ac dn t u:Int):Option (List Sg)×Int:=
 if a.x+s.x=a.x/\a.y+s.y=a.y/\a.z=a.z then Pz (none,0) (Hg a s) (Gv a s g) t dn u else Pz (Jc (none,0) (Es a (Hg a s) t (t+ac) 2)) (Hg a s) (Gv a s g) (t+ac) dn u
noncomputable def Ra (s:Option (List Sg)×Int):AV:=if s.2=0 then .tup [Bq (s.1.getD []),.int 0] else .lit (.tuple #[.slice none 0 0,.int .i64 s.2])
abbrev Br (d:De) (side:Int):V3:=d.sides.getD side.toNat V3.zero
def Jd (p:Pr) (d:De) (c:Cs) (side:Int):Prop:=Hs p d<=3600000/\0<=side/\side<(d.sides.length:Int)/\Dh 1048576 [(Hg (Al p c) (Br d side)).x,(Hg (Al p c) (Br d side)).y,(Hg (Al p c) (Br d side)).z]=true/\Dh 1048576 [(Gv (Al p c) (Br d side) d.ground).x,(Gv (Al p c) (Br d side) d.ground).y,(Gv (Al p c) (Br d side) d.ground).z]=true
abbrev oV (p:Pr) (d:De) (c:Cs) (side:Int):V3:=Hg (Al p c) (Br d side)
abbrev lV (p:Pr) (d:De) (c:Cs) (side:Int):V3:=Gv (Al p c) (Br d side) d.ground
abbrev gA (p:Pr) (d:De) (c:Cs) (side:Int):List Sg×Int:=Es (Al p c) (oV p d c side) (Aj p c) (Aj p c+d.across) 2
abbrev gD (p:Pr) (d:De) (c:Cs) (side t:Int):List Sg×Int:=Es (oV p d c side) (lV p d c side) t (t+d.down) 2
abbrev gH (p:Pr) (d:De) (c:Cs) (side t:Int):List Sg×Int:=Es (lV p d c side) (lV p d c side) t (Hs p d) 0
theorem nG (p:Pr) (d:De) (c:Cs) (side:Int) (hp:Lf p) (hd:Ru d) (hcs:Sh c) (hsd:Cc side) (hc:Ej p c) (ho:Ev d) (h:¬Jd p d c side):AF Tryz.prog 17 [Hc p,Jt d,Nt c,.int side] (.lit (.tuple #[.slice none 0 0,.int .i64 9])):=by
 have hv:=Hv hc.1
 have hc1:=hc.2.1
 have hc2:=hc.2.2.1
 have hc3:=hc.2.2.2.1
 have hc4:=hc.2.2.2.2
 have hto:=in3 (hv.to (j:=c.act.toNat) (i:=c.craft.toNat) ω ω)
 have hat:(-1048576<=(Al p c).x/\(Al p c).x<=1048576)/\(-1048576<=(Al p c).y/\(Al p c).y<=1048576)/\(-1048576<=(Al p c).z/\(Al p c).z<=1048576):=hto
 have hce:0<=Aj p c/\Aj p c<=3600000:=hv.ends (c.act.toNat+1) ω
 have hd1:=ho.1
 refine Be func17 rfl λB D0 hA0=>?_
 refine Ab 14 (Aw (Ey p c hp hcs) (Ab 2 (Dy 25 (!bP (Ej p c)) false (by rw[(Cn hc)];rfl) (Ab 1 (Aw (Fw d hd) (Ab 4 (Dy 29 (!bP (Ev d)) false (by rw[(Cn ho)];rfl) (Ab 7 (vsp (Hs p d<=3600000) (λhx1 hx1d=>?_) (λhx1 hx1d=>?_))))))))))
 ·
  refine Aw (Jh p d hp hd ⟨hc.1,ho⟩ ω (of_decide_eq_true hx1)) (Ab 17 (He 42 (side<0) (λhx2 hx2d=>?_) (λhx2 hx2d=>?_)))
  ·
   exact Ab 17 (Cu)
  ·
   refine Ab 8 (He 48 ((d.sides.length:Int)<=side) (λhx3 hx3d=>?_) (λhx3 hx3d=>?_))
   ·
    exact Ab 9 (Cu)
   ·
    refine Ab 7 (Aw (Qd p c hp hcs hc) (Ab 11 (Aw (Tw p c hp hcs hc) (Ab 8 ?_))))
    have hsv:=in3 (ho.2 side.toNat ω).1
    have hsz:=(ho.2 side.toNat ω).2.1
    refine Ab 1 (Dg [(5,Dx (Km d.sides) (side).toNat,.none),(8,.int ((Al p c).x+(d.sides.getD ((side).toNat) V3.zero).x),.none),(14,Dx (Km d.sides) (side).toNat,.none),(17,.int ((Al p c).y+(d.sides.getD ((side).toNat) V3.zero).y),.none)] [5,10,12,14,16] ⟨Qw side (side).toNat d.sides.length,As (Bb (v:= .int .i64 (IntKind.wrap .i64 ((Al p c).x+(d.sides.getD ((side).toNat) V3.zero).x))) (v':= .int .i64 ((Al p c).x+(d.sides.getD ((side).toNat) V3.zero).x)) _ κ rfl κ (λw=>by kernel_rfl) (congrArg (Value.int .i64) ((IntWalk.i64_in _ ω).trans ω))),Qw side (side).toNat d.sides.length,As (Bb (v:= .int .i64 (IntKind.wrap .i64 ((Al p c).y+(d.sides.getD ((side).toNat) V3.zero).y))) (v':= .int .i64 ((Al p c).y+(d.sides.getD ((side).toNat) V3.zero).y)) _ κ rfl κ (λw=>by kernel_rfl) (congrArg (Value.int .i64) ((IntWalk.i64_in _ ω).trans ω))),trivial⟩ (Ab 18 (Aw (Gb (oV p d c side)) (Ab 2 (Rx 92 (Dh 1048576 [(oV p d c side).x,(oV p d c side).y,(oV p d c side).z]) (λhx4=>?_) (λhx4=>?_))))))
    ·
     refine Ab 1 (Aw (Gb (lV p d c side)) (Ab 4 (Rx 96 (Dh 1048576 [(lV p d c side).x,(lV p d c side).y,(lV p d c side).z]) (λhx5=>?_) (λhx5=>?_))))
     ·
      refine Ab 3 ?_
      exact absurd ⟨of_decide_eq_true hx1,ω,ω,hx4,hx5⟩ h
     ·
      exact Ab 9 (Cu)
    ·
     exact Ab 15 (Cu)
 ·
  exact Aw (Yf p d hp hd ⟨hc.1,ho⟩ ω (by have:=of_decide_eq_false hx1;omega)) (Ab 34 (Cu))
theorem zL (p:Pr) (d:De) (c:Cs) (side:Int) (hp:Lf p) (hd:Ru d) (hcs:Sh c) (hsd:Cc side) (hc:Ej p c) (ho:Ev d) (h:Jd p d c side):AF Tryz.prog 17 [Hc p,Jt d,Nt c,.int side] (Ra (Rk (Al p c) (Br d side) d.ground d.across d.down (Aj p c) (Hs p d))):=by
 have hv:=Hv hc.1
 have hc1:=hc.2.1
 have hc2:=hc.2.2.1
 have hc3:=hc.2.2.2.1
 have hc4:=hc.2.2.2.2
 have hto:=in3 (hv.to (j:=c.act.toNat) (i:=c.craft.toNat) ω ω)
 have hat:(-1048576<=(Al p c).x/\(Al p c).x<=1048576)/\(-1048576<=(Al p c).y/\(Al p c).y<=1048576)/\(-1048576<=(Al p c).z/\(Al p c).z<=1048576):=hto
 have hce:0<=Aj p c/\Aj p c<=3600000:=hv.ends (c.act.toNat+1) ω
 have hd1:=ho.1
 have hs1:=h.2.1
 have hs2:=h.2.2.1
 have hht:=h.1
 refine Be func17 rfl λB D0 hA0=>?_
 refine Ab 14 (Aw (Ey p c hp hcs) (Ab 2 (Dy 25 (!bP (Ej p c)) false (by rw[(Cn hc)];rfl) (Ab 1 (Aw (Fw d hd) (Ab 4 (Dy 29 (!bP (Ev d)) false (by rw[(Cn ho)];rfl) (Ab 7 (Aw (Jh p d hp hd ⟨hc.1,ho⟩ ω (of_decide_eq_true (decide_eq_true h.1))) (Ab 15 (Dy 40 (decide (side<0)) false (decide_eq_false ω) (Ab 7 (Dy 47 (decide ((d.sides.length:Int)<=side)) false (decide_eq_false ω) (Ab 10 (Aw (Qd p c hp hcs hc) (Ab 11 (Aw (Tw p c hp hcs hc) (Ab 8 ?_))))))))))))))))))
 have hsv:=in3 (ho.2 side.toNat ω).1
 have hsz:=(ho.2 side.toNat ω).2.1
 refine Ab 1 (Dg [(5,Dx (Km d.sides) (side).toNat,.none),(8,.int ((Al p c).x+(d.sides.getD ((side).toNat) V3.zero).x),.none),(14,Dx (Km d.sides) (side).toNat,.none),(17,.int ((Al p c).y+(d.sides.getD ((side).toNat) V3.zero).y),.none)] [5,10,12,14,16] ⟨Qw side (side).toNat d.sides.length,As (Bb (v:= .int .i64 (IntKind.wrap .i64 ((Al p c).x+(d.sides.getD ((side).toNat) V3.zero).x))) (v':= .int .i64 ((Al p c).x+(d.sides.getD ((side).toNat) V3.zero).x)) _ κ rfl κ (λw=>by kernel_rfl) (congrArg (Value.int .i64) ((IntWalk.i64_in _ ω).trans ω))),Qw side (side).toNat d.sides.length,As (Bb (v:= .int .i64 (IntKind.wrap .i64 ((Al p c).y+(d.sides.getD ((side).toNat) V3.zero).y))) (v':= .int .i64 ((Al p c).y+(d.sides.getD ((side).toNat) V3.zero).y)) _ κ rfl κ (λw=>by kernel_rfl) (congrArg (Value.int .i64) ((IntWalk.i64_in _ ω).trans ω))),trivial⟩ (Ab 18 (Aw (Gb (oV p d c side)) (Ab 2 (Dy 92 (!Dh 1048576 [(oV p d c side).x,(oV p d c side).y,(oV p d c side).z]) false (by rw[h.2.2.2.1];rfl) (Ab 1 (Aw (Gb (lV p d c side)) (Ab 4 (Dy 96 (!Dh 1048576 [(lV p d c side).x,(lV p d c side).y,(lV p d c side).z]) false (by rw[h.2.2.2.2];rfl) (Ab 5 (vH 6 func38 (λ_ hD1=>?_))))))))))))
 refine Ab 18 (Dg [] [0,1,2] trivial (Ab 2 (Ux (Ab 14 (Bi (.bool (!(decide ((Al p c).x+(d.sides.getD ((side).toNat) V3.zero).x=(Al p c).x/\(Al p c).y+(d.sides.getD ((side).toNat) V3.zero).y=(Al p c).y/\(Al p c).z=(Al p c).z)))) .none (Xe 62 62 (.tmp 102) (.tmp 103) κ _ _ κ κ κ (decide ((Al p c).x+(d.sides.getD ((side).toNat) V3.zero).x=(Al p c).x/\(Al p c).y+(d.sides.getD ((side).toNat) V3.zero).y=(Al p c).y/\(Al p c).z=(Al p c).z)) (Ss _ _ _ _ _ _)) (Ab 2 (Xy 104 ((Al p c).x+(d.sides.getD ((side).toNat) V3.zero).x=(Al p c).x/\(Al p c).y+(d.sides.getD ((side).toNat) V3.zero).y=(Al p c).y/\(Al p c).z=(Al p c).z) (λhx2 hx2d=>?_) (λhx2 hx2d=>?_))))))))
 ·
  refine Ab 12 (Dm (Aj p c+d.down) (Aj p c+d.down) (Aw (Jr (oV p d c side) (lV p d c side) (Aj p c) (Aj p c+d.down)) (Ab 2 (Lw 10 func65 (λ_ hD3=>?_)))))
  refine Ab 18 (Xy 23 ((gD p d c side (Aj p c)).2=0) (λhx4 hx4d=>?_) (λhx4 hx4d=>?_))
  ·
   have hx4l:=Sx hx4d
   refine Ab 6 (AhZ (Ab 11 (Ux (Ab 7 (Dm (Aj p c+d.down) (Aj p c+d.down) (Ab 11 (He 139 (Aj p c+d.down<Hs p d) (λhx5 hx5d=>?_) (λhx5 hx5d=>?_))))))))
   ·
    refine Ab 6 (Aw (It (lV p d c side) (Aj p c+d.down) (Hs p d)) (Ab 2 (Lw 10 func65 (λ_ hD6=>?_))))
    refine Ab 18 (Xy 23 ((gH p d c side (Aj p c+d.down)).2=0) (λhx7 hx7d=>?_) (λhx7 hx7d=>?_))
    ·
     have hx7l:=Sx hx7d
     refine Ab 6 (ven (((gD p d c side (Aj p c)).1).length) (Ab 4 (vsp ((Dz ((gD p d c side (Aj p c)).1) ((gH p d c side (Aj p c+d.down)).1)).2=0) (λhx8 hx8d=>?_) (λhx8 hx8d=>?_))))
     ·
      have hx8l:=jW ω hx8d
      exact Dg [(6,_,.none)] [] ⟨Bu (Kb _ _ (Dp _ _ _ _ _) (Dp _ _ _ _ _) (of_decide_eq_true hx8)),trivial⟩ (Ab 1 (Ux (Ab 24 (El (.tup [Bq ((Dz ((gD p d c side (Aj p c)).1) ((gH p d c side (Aj p c+d.down)).1)).1),.int 0]) (show (.tup [_,_]:AV)=_ by unfold Rk;rw[if_pos hx2d];simp only[Pz,Jc,Ra,hx4d,hx5d,hx7d,hx8d,if_true,Option.getD_some])))))
     ·
      exact Dg [(6,_,.none)] [] ⟨Bu (La _ _ (Dp _ _ _ _ _) (Dp _ _ _ _ _) (of_decide_eq_false hx8)),trivial⟩ (Ab 1 (Ux (Ab 11 (Dy 151 (!decide ((Dz ((gD p d c side (Aj p c)).1) ((gH p d c side (Aj p c+d.down)).1)).2=0)) true (nf hx8) (Ab 2 (Dg [] [8,9] trivial (Ab 3 (El (.lit (.tuple #[.slice none 0 0,.int .i64 ((Dz ((gD p d c side (Aj p c)).1) ((gH p d c side (Aj p c+d.down)).1)).2)])) (show (.lit _:AV)=_ by unfold Rk;rw[if_pos hx2d];simp only[Pz,Jc,Ra,hx4d,hx5d,hx7d,hx8d,if_true,if_false,Option.getD_none])))))))))
    ·
     exact Ab 8 (Ux (Ab 11 (Dy 151 (!decide ((gH p d c side (Aj p c+d.down)).2=0)) true (nf hx7) (Ab 2 (Dg [] [8,9] trivial (Ab 3 (El (.lit (.tuple #[.slice none 0 0,.int .i64 ((gH p d c side (Aj p c+d.down)).2)])) (show (.lit _:AV)=_ by unfold Rk;rw[if_pos hx2d];simp only[Pz,Jc,Ra,hx4d,hx5d,hx7d,if_true,if_false,Option.getD_some]))))))))
   ·
    exact Ab 25 (El (.tup [Bq ((gD p d c side (Aj p c)).1),.int 0]) (show (.tup [_,_]:AV)=_ by unfold Rk;rw[if_pos hx2d];simp only[Pz,Jc,Ra,hx4d,hx5d,if_true,if_false,Option.getD_some]))
  ·
   refine Ab 8 (Ux (Ab 7 (Dm (Aj p c+d.down) (Aj p c+d.down) (Ab 11 (He 139 (Aj p c+d.down<Hs p d) (λhx9 hx9d=>?_) (λhx9 hx9d=>?_))))))
   ·
    refine Ab 6 (Aw (It (lV p d c side) (Aj p c+d.down) (Hs p d)) (Ab 2 (Lw 10 func65 (λ_ hD10=>?_))))
    exact Ab 10 (Dy 18 (!decide ((gD p d c side (Aj p c)).2=0)) true (nf hx4) (Ab 3 (Ux (Ab 11 (Dy 151 (!decide ((gD p d c side (Aj p c)).2=0)) true (nf hx4) (Ab 2 (Dg [] [8,9] trivial (Ab 3 (El (.lit (.tuple #[.slice none 0 0,.int .i64 ((gD p d c side (Aj p c)).2)])) (show (.lit _:AV)=_ by unfold Rk;rw[if_pos hx2d];simp only[Pz,Jc,Ra,hx4d,hx9d,if_true,if_false,Option.getD_none]))))))))))
   ·
    exact Ab 12 (Dy 151 (!decide ((gD p d c side (Aj p c)).2=0)) true (nf hx4) (Ab 2 (Dg [] [8,9] trivial (Ab 3 (El (.lit (.tuple #[.slice none 0 0,.int .i64 ((gD p d c side (Aj p c)).2)])) (show (.lit _:AV)=_ by unfold Rk;rw[if_pos hx2d];simp only[Pz,Jc,Ra,hx4d,hx9d,if_true,if_false,Option.getD_none]))))))
 ·
  refine Ab 10 (Dm (Aj p c+d.across) (Aj p c+d.across) (Aw (Jr (Al p c) (oV p d c side) (Aj p c) (Aj p c+d.across)) (Ab 2 (Lw 10 func65 (λ_ hD11=>?_)))))
  refine Ab 18 (Xy 23 ((gA p d c side).2=0) (λhx12 hx12d=>?_) (λhx12 hx12d=>?_))
  ·
   have hx12l:=Sx hx12d
   refine Ab 6 (AhZ (Ab 11 (Ux (Ab 6 (Dm (Aj p c+d.across) (Aj p c+d.across) (Ab 12 (Dm (Aj p c+d.across+d.down) (Aj p c+d.across+d.down) (Aw (Jr (oV p d c side) (lV p d c side) (Aj p c+d.across) (Aj p c+d.across+d.down)) (Ab 2 (Lw 10 func65 (λ_ hD13=>?_)))))))))))
   refine Ab 18 (Xy 23 ((gD p d c side (Aj p c+d.across)).2=0) (λhx14 hx14d=>?_) (λhx14 hx14d=>?_))
   ·
    have hx14l:=Sx hx14d
    refine Ab 6 (ven (((gA p d c side).1).length) (Ab 4 (vsp ((Dz ((gA p d c side).1) ((gD p d c side (Aj p c+d.across)).1)).2=0) (λhx15 hx15d=>?_) (λhx15 hx15d=>?_))))
    ·
     have hx15l:=jW ω hx15d
     refine Dg [(6,_,.none)] [] ⟨Bu (Kb _ _ (Dp _ _ _ _ _) (Dp _ _ _ _ _) (of_decide_eq_true hx15)),trivial⟩ (Ab 1 (Ux (Ab 7 (Dm (Aj p c+d.across+d.down) (Aj p c+d.across+d.down) (Ab 11 (He 139 (Aj p c+d.across+d.down<Hs p d) (λhx16 hx16d=>?_) (λhx16 hx16d=>?_)))))))
     ·
      refine Ab 6 (Aw (It (lV p d c side) (Aj p c+d.across+d.down) (Hs p d)) (Ab 2 (Lw 10 func65 (λ_ hD17=>?_))))
      refine Ab 18 (Xy 23 ((gH p d c side (Aj p c+d.across+d.down)).2=0) (λhx18 hx18d=>?_) (λhx18 hx18d=>?_))
      ·
       have hx18l:=Sx hx18d
       refine Ab 6 (ven (((Dz ((gA p d c side).1) ((gD p d c side (Aj p c+d.across)).1)).1).length) (Ab 4 (vsp ((Dz ((Dz ((gA p d c side).1) ((gD p d c side (Aj p c+d.across)).1)).1) ((gH p d c side (Aj p c+d.across+d.down)).1)).2=0) (λhx19 hx19d=>?_) (λhx19 hx19d=>?_))))
       ·
        have hx19l:=jW ω hx19d
        exact Dg [(6,_,.none)] [] ⟨Bu (Kb _ _ (Bj.app (Dp _ _ _ _ _) (Dp _ _ _ _ _)) (Dp _ _ _ _ _) (of_decide_eq_true hx19)),trivial⟩ (Ab 1 (Ux (Ab 24 (El (.tup [Bq ((Dz ((Dz ((gA p d c side).1) ((gD p d c side (Aj p c+d.across)).1)).1) ((gH p d c side (Aj p c+d.across+d.down)).1)).1),.int 0]) (show (.tup [_,_]:AV)=_ by unfold Rk;rw[if_neg hx2d];simp only[Pz,Jc,Ra,hx12d,hx14d,hx15d,hx16d,hx18d,hx19d,if_true,Option.getD_some])))))
       ·
        exact Dg [(6,_,.none)] [] ⟨Bu (La _ _ (Bj.app (Dp _ _ _ _ _) (Dp _ _ _ _ _)) (Dp _ _ _ _ _) (of_decide_eq_false hx19)),trivial⟩ (Ab 1 (Ux (Ab 11 (Dy 151 (!decide ((Dz ((Dz ((gA p d c side).1) ((gD p d c side (Aj p c+d.across)).1)).1) ((gH p d c side (Aj p c+d.across+d.down)).1)).2=0)) true (nf hx19) (Ab 2 (Dg [] [8,9] trivial (Ab 3 (El (.lit (.tuple #[.slice none 0 0,.int .i64 ((Dz ((Dz ((gA p d c side).1) ((gD p d c side (Aj p c+d.across)).1)).1) ((gH p d c side (Aj p c+d.across+d.down)).1)).2)])) (show (.lit _:AV)=_ by unfold Rk;rw[if_neg hx2d];simp only[Pz,Jc,Ra,hx12d,hx14d,hx15d,hx16d,hx18d,hx19d,if_true,if_false,Option.getD_none])))))))))
      ·
       exact Ab 8 (Ux (Ab 11 (Dy 151 (!decide ((gH p d c side (Aj p c+d.across+d.down)).2=0)) true (nf hx18) (Ab 2 (Dg [] [8,9] trivial (Ab 3 (El (.lit (.tuple #[.slice none 0 0,.int .i64 ((gH p d c side (Aj p c+d.across+d.down)).2)])) (show (.lit _:AV)=_ by unfold Rk;rw[if_neg hx2d];simp only[Pz,Jc,Ra,hx12d,hx14d,hx15d,hx16d,hx18d,if_true,if_false,Option.getD_some]))))))))
     ·
      exact Ab 25 (El (.tup [Bq ((Dz ((gA p d c side).1) ((gD p d c side (Aj p c+d.across)).1)).1),.int 0]) (show (.tup [_,_]:AV)=_ by unfold Rk;rw[if_neg hx2d];simp only[Pz,Jc,Ra,hx12d,hx14d,hx15d,hx16d,if_true,if_false,Option.getD_some]))
    ·
     refine Dg [(6,_,.none)] [] ⟨Bu (La _ _ (Dp _ _ _ _ _) (Dp _ _ _ _ _) (of_decide_eq_false hx15)),trivial⟩ (Ab 1 (Ux (Ab 7 (Dm (Aj p c+d.across+d.down) (Aj p c+d.across+d.down) (Ab 11 (He 139 (Aj p c+d.across+d.down<Hs p d) (λhx20 hx20d=>?_) (λhx20 hx20d=>?_)))))))
     ·
      refine Ab 6 (Aw (It (lV p d c side) (Aj p c+d.across+d.down) (Hs p d)) (Ab 2 (Lw 10 func65 (λ_ hD21=>?_))))
      exact Ab 10 (Dy 18 (!decide ((Dz ((gA p d c side).1) ((gD p d c side (Aj p c+d.across)).1)).2=0)) true (nf hx15) (Ab 3 (Ux (Ab 11 (Dy 151 (!decide ((Dz ((gA p d c side).1) ((gD p d c side (Aj p c+d.across)).1)).2=0)) true (nf hx15) (Ab 2 (Dg [] [8,9] trivial (Ab 3 (El (.lit (.tuple #[.slice none 0 0,.int .i64 ((Dz ((gA p d c side).1) ((gD p d c side (Aj p c+d.across)).1)).2)])) (show (.lit _:AV)=_ by unfold Rk;rw[if_neg hx2d];simp only[Pz,Jc,Ra,hx12d,hx14d,hx15d,hx20d,if_true,if_false,Option.getD_none]))))))))))
     ·
      exact Ab 12 (Dy 151 (!decide ((Dz ((gA p d c side).1) ((gD p d c side (Aj p c+d.across)).1)).2=0)) true (nf hx15) (Ab 2 (Dg [] [8,9] trivial (Ab 3 (El (.lit (.tuple #[.slice none 0 0,.int .i64 ((Dz ((gA p d c side).1) ((gD p d c side (Aj p c+d.across)).1)).2)])) (show (.lit _:AV)=_ by unfold Rk;rw[if_neg hx2d];simp only[Pz,Jc,Ra,hx12d,hx14d,hx15d,hx20d,if_true,if_false,Option.getD_none]))))))
   ·
    refine Ab 8 (Ux (Ab 7 (Dm (Aj p c+d.across+d.down) (Aj p c+d.across+d.down) (Ab 11 (He 139 (Aj p c+d.across+d.down<Hs p d) (λhx22 hx22d=>?_) (λhx22 hx22d=>?_))))))
    ·
     refine Ab 6 (Aw (It (lV p d c side) (Aj p c+d.across+d.down) (Hs p d)) (Ab 2 (Lw 10 func65 (λ_ hD23=>?_))))
     exact Ab 10 (Dy 18 (!decide ((gD p d c side (Aj p c+d.across)).2=0)) true (nf hx14) (Ab 3 (Ux (Ab 11 (Dy 151 (!decide ((gD p d c side (Aj p c+d.across)).2=0)) true (nf hx14) (Ab 2 (Dg [] [8,9] trivial (Ab 3 (El (.lit (.tuple #[.slice none 0 0,.int .i64 ((gD p d c side (Aj p c+d.across)).2)])) (show (.lit _:AV)=_ by unfold Rk;rw[if_neg hx2d];simp only[Pz,Jc,Ra,hx12d,hx14d,hx22d,if_true,if_false,Option.getD_some]))))))))))
    ·
     exact Ab 12 (Dy 151 (!decide ((gD p d c side (Aj p c+d.across)).2=0)) true (nf hx14) (Ab 2 (Dg [] [8,9] trivial (Ab 3 (El (.lit (.tuple #[.slice none 0 0,.int .i64 ((gD p d c side (Aj p c+d.across)).2)])) (show (.lit _:AV)=_ by unfold Rk;rw[if_neg hx2d];simp only[Pz,Jc,Ra,hx12d,hx14d,hx22d,if_true,if_false,Option.getD_some]))))))
  ·
   refine Ab 8 (Ux (Ab 6 (Dm (Aj p c+d.across) (Aj p c+d.across) (Ab 12 (Dm (Aj p c+d.across+d.down) (Aj p c+d.across+d.down) (Aw (Jr (oV p d c side) (lV p d c side) (Aj p c+d.across) (Aj p c+d.across+d.down)) (Ab 2 (Lw 10 func65 (λ_ hD24=>?_)))))))))
   refine Ab 10 (Dy 18 (!decide ((gA p d c side).2=0)) true (nf hx12) (Ab 3 (Ux (Ab 7 (Dm (Aj p c+d.across+d.down) (Aj p c+d.across+d.down) (Ab 11 (He 139 (Aj p c+d.across+d.down<Hs p d) (λhx25 hx25d=>?_) (λhx25 hx25d=>?_))))))))
   ·
    refine Ab 6 (Aw (It (lV p d c side) (Aj p c+d.across+d.down) (Hs p d)) (Ab 2 (Lw 10 func65 (λ_ hD26=>?_))))
    exact Ab 10 (Dy 18 (!decide ((gA p d c side).2=0)) true (nf hx12) (Ab 3 (Ux (Ab 11 (Dy 151 (!decide ((gA p d c side).2=0)) true (nf hx12) (Ab 2 (Dg [] [8,9] trivial (Ab 3 (El (.lit (.tuple #[.slice none 0 0,.int .i64 ((gA p d c side).2)])) (show (.lit _:AV)=_ by unfold Rk;rw[if_neg hx2d];simp only[Pz,Jc,Ra,hx12d,hx25d,if_true,if_false,Option.getD_none]))))))))))
   ·
    exact Ab 12 (Dy 151 (!decide ((gA p d c side).2=0)) true (nf hx12) (Ab 2 (Dg [] [8,9] trivial (Ab 3 (El (.lit (.tuple #[.slice none 0 0,.int .i64 ((gA p d c side).2)])) (show (.lit _:AV)=_ by unfold Rk;rw[if_neg hx2d];simp only[Pz,Jc,Ra,hx12d,hx25d,if_true,if_false,Option.getD_none]))))))
def AdF:List Mv:=[⟨⟨0,0,1000⟩,0,1000,0⟩,⟨⟨1000,0,1000⟩,0,1000,0⟩]
def AdG:List Mv:=[⟨⟨0,0,1000⟩,0,0,0⟩,⟨⟨1000,0,1000⟩,0,0,0⟩]
def Yb:Pr:=⟨[⟨#[97]⟩,⟨#[98]⟩],[⟨0,0,0⟩,⟨1000,0,0⟩],[⟨⟨#[117,112]⟩,2000,AdF⟩,⟨⟨#[115,116,97,121]⟩,2000,AdG⟩]⟩
def kL:De:=⟨[⟨0,0,0⟩,⟨0,300,0⟩],800,1500,0⟩
theorem rO:AF Tryz.prog 15 [] (.tup [Hc Yb,Jt kL]):=by
 refine Be func15 rfl λB D0 hA0=>?_
 exact Ab 22 (Bi (.osl 4 6 2) (.new 4 (.vec 78 6 2 (λxi=>mvA (AdF.getD xi Mv.none)))) (Au 50 2 #[(0,(.tmp 9)),(1,(.tmp 11))] κ underlying50 6 sizeOf78 _ zeroValue78 κ β β β 4 [.int 0,.int 0,.int 1000,.int 0,.int 1000,.int 0,.int 1000,.int 0,.int 1000,.int 0,.int 1000,.int 0] κ (λxi=>mvA (AdF.getD xi Mv.none)) κ) (Ab 3 (AbI 4 [4] 78 6 2 (λxi=>mvA (AdF.getD xi Mv.none)) (Fe λ_ _=>rfl) (Ab 2 (Bi (.osl 5 1 2) (.new 5 (.vec 9 1 2 (λxi=> .lit (.string (Yb.names.getD xi ByteArray.empty))))) (Au 22 2 #[(0,(.const (.string ⟨#[97]⟩))),(1,(.const (.string ⟨#[98]⟩)))] κ underlying22 1 sizeOf9 _ zeroValue9 κ β β β 5 [.lit (.string ⟨#[97]⟩),.lit (.string ⟨#[98]⟩)] κ (λxi=> .lit (.string (Yb.names.getD xi ByteArray.empty))) κ) (Ab 2 (Bi (.osl 6 3 2) (.new 6 (.vec 62 3 2 (λxi=>Bs (Yb.homes.getD xi V3.zero)))) (Au 23 2 #[(0,(.tmp 14)),(1,(.tmp 15))] κ underlying23 3 sizeOf62 _ zeroValue62 κ β β β 6 [.int 0,.int 0,.int 0,.int 1000,.int 0,.int 0] κ (λxi=>Bs (Yb.homes.getD xi V3.zero)) κ) (Ab 6 (Bi (.osl 7 6 2) (.new 7 (.vec 78 6 2 (λxi=>mvA (AdG.getD xi Mv.none)))) (Au 50 2 #[(0,(.tmp 20)),(1,(.tmp 22))] κ underlying50 6 sizeOf78 _ zeroValue78 κ β β β 7 [.int 0,.int 0,.int 1000,.int 0,.int 0,.int 0,.int 1000,.int 0,.int 1000,.int 0,.int 0,.int 0] κ (λxi=>mvA (AdG.getD xi Mv.none)) κ) (AbI 7 [23] 78 6 2 (λxi=>mvA (AdG.getD xi Mv.none)) (Fe λ_ _=>rfl) (Ab 1 (Bi (.osl 8 3 2) (.new 8 (.vec 52 3 2 (λxi=>Agm (Yb.acts.getD xi Ac.none)))) (Au 24 2 #[(0,(.tmp 18)),(1,(.tmp 24))] κ underlying24 3 sizeOf52 _ zeroValue52 κ β β β 8 [.lit (.string ⟨#[117,112]⟩),.int 2000,.sl 6 2 (λxi=>mvA (AdF.getD xi Mv.none)),.lit (.string ⟨#[115,116,97,121]⟩),.int 2000,.sl 6 2 (λxi=>mvA (AdG.getD xi Mv.none))] κ (λxi=>Agm (Yb.acts.getD xi Ac.none)) κ) (Ab 5 (AjS 5 9 0 9 1 2 (λxi=> .lit (.string (Yb.names.getD xi ByteArray.empty))) (Fe λ_ _=>rfl) (AjS 6 9 1 62 3 2 (λxi=>Bs (Yb.homes.getD xi V3.zero)) (Fe λ_ _=>rfl) (AjS 8 9 2 52 3 2 (λxi=>Agm (Yb.acts.getD xi Ac.none)) (Fe λ_ _=>rfl) (Ab 5 (Bi (.osl 10 3 2) (.new 10 (.vec 62 3 2 (λxi=>Bs (kL.sides.getD xi V3.zero)))) (Au 23 2 #[(0,(.tmp 28)),(1,(.tmp 29))] κ underlying23 3 sizeOf62 _ zeroValue62 κ β β β 10 [.int 0,.int 0,.int 0,.int 0,.int 300,.int 0] κ (λxi=>Bs (kL.sides.getD xi V3.zero)) κ) (Ab 5 (AkZ 10 1 0 62 3 2 (λxi=>Bs (kL.sides.getD xi V3.zero)) (Fe λ_ _=>rfl) (Ab 1 (Cu))))))))))))))))))))))
theorem Qt:Lf Yb:=⟨δ,δ,δ,δ,δ⟩
theorem cQ:Ru kL:=⟨δ,⟨δ,δ⟩,⟨δ,δ⟩,⟨δ,δ⟩⟩
theorem gY:Fv Yb=true:=by kernel_rfl
theorem tA:Ev kL:=⟨δ,λi hi=>by
 have:i<2:=hi
 match i,this with
 |0,_=>exact⟨δ,rfl,λj hj=>absurd hj (Nat.not_lt_zero j)⟩
 |1,_=>exact⟨δ,rfl,λj hj=>by
  obtain rfl:j=0:=by omega
  decide⟩⟩
theorem AdC:AgO Yb kL:=⟨gY,tA⟩
theorem exT:Hs Yb kL=6300:=by decide
theorem Yp (k:Int) (h:k=0\/k=1):Ej Yb ⟨0,k⟩:=⟨gY,by show (0:Int)<=0;decide,by show (0:Int)<2;decide,by show (0:Int)<=k;omega,by show k<(2:Int);omega⟩
theorem eC {a b:V3} {f t k:Int} (h:Sv a b f t=true):bS (Ov a b f t k):=by
 have:=(Dp a b f t k).2 0
 unfold Es at this
 rw[if_pos h] at this
 exact this
theorem xC {a b:V3} {f t k:Int} (h:Sv a b f t=true):Es a b f t k=([Ov a b f t k],0):=by unfold Es;rw[if_pos h]
abbrev Vg:Sg:=Ov ⟨0,0,1000⟩ ⟨0,300,1000⟩ 2000 2800 2
abbrev Yq:Sg:=Ov ⟨0,300,1000⟩ ⟨0,300,0⟩ 2800 4300 2
abbrev AdD:Sg:=Ov ⟨0,300,0⟩ ⟨0,300,0⟩ 4300 6300 0
abbrev oJ:Sg:=Ov ⟨0,0,1000⟩ ⟨0,0,0⟩ 4000 5500 2
abbrev AdE:Sg:=Ov ⟨0,0,0⟩ ⟨0,0,0⟩ 5500 6300 0
def eV:List Sg:=[Vg,Yq,AdD]
def exB:List Sg:=[oJ,AdE]
theorem cP:Bj eV:=⟨δ,λi=>match i with
 |0=>eC δ
 |1=>eC δ
 |2=>eC δ
 |i+3=>Bj.nil.2 i⟩
theorem ok1:Er [Vg]:=by decide+kernel
theorem ok2:Er [Yq]:=by decide+kernel
theorem ok3:Er [AdD]:=by decide+kernel
theorem ok4:Er [oJ]:=by decide+kernel
theorem ok5:Er [AdE]:=by decide+kernel
theorem Al9:Er [Vg,Yq]:=by decide+kernel
theorem AdB:Er eV:=by decide+kernel
theorem Aj0:Nq Vg Yq:=by decide+kernel
theorem Aj1:Nq Yq AdD:=by decide+kernel
theorem Aj2:Nq oJ AdE:=by decide+kernel
theorem Aik:Dz [Vg] [Yq]=([Vg,Yq],0):=jV (Cn ok1) (Cn ok2) (Cn Aj0) δ
theorem Aky:Dz [Vg,Yq] [AdD]=(eV,0):=jV (Cn Al9) (Cn ok3) (Cn Aj1) δ
theorem Akz:Dz [oJ] [AdE]=(exB,0):=jV (Cn ok4) (Cn ok5) (Cn Aj2) δ
theorem Ak4:Aj Yb ⟨0,0⟩=2000/\Aj Yb ⟨0,1⟩=4000:=by decide
theorem Ak5:Bj [Vg]:=⟨δ,λi=>match i with
 |0=>cP.2 0
 |i+1=>Bj.nil.2 i⟩
theorem Ak7:Bj [Yq]:=⟨δ,λi=>match i with
 |0=>cP.2 1
 |i+1=>Bj.nil.2 i⟩
theorem Al0:Bj [AdD]:=⟨δ,λi=>match i with
 |0=>cP.2 2
 |i+1=>Bj.nil.2 i⟩
theorem Al1:Bj [oJ]:=⟨δ,λi=>match i with
 |0=>eC δ
 |i+1=>Bj.nil.2 i⟩
theorem Al2:Bj [AdE]:=⟨δ,λi=>match i with
 |0=>eC δ
 |i+1=>Bj.nil.2 i⟩
theorem Ak6:Bj [Vg,Yq]:=by
 have:=Bj.app Ak5 Ak7
 rwa [Aik] at this
theorem Yc {a b c:List Sg} (ha:Bj a) (hb:Bj b) (h:Dz a b=(c,0)):AF Tryz.prog 59 [Bq a,Bq b] (.tup [Bq c,.int 0]):=by
 have h2:=Kb a b ha hb (by rw[h])
 rwa [h] at h2
theorem Rz {a b:V3} {f t:Int} (h:Sv a b f t=true):AF Tryz.prog 31 [Bs a,Bs b,.int f,.int t] (.tup [Bq [Ov a b f t 2],.int 0]):=by
 have h2:=Jr a b f t
 rwa [xC h] at h2
theorem Zd {a:V3} {f t:Int} (h:Sv a a f t=true):AF Tryz.prog 33 [Bs a,.int f,.int t] (.tup [Bq [Ov a a f t 0],.int 0]):=by
 have h2:=It a f t
 rwa [xC h] at h2
theorem AlK:AF Tryz.prog 17 [Hc Yb,Jt kL,.lit (.agg #[.int .i64 0,.int .i64 0]),.int 1] (.tup [Bq eV,.int 0]):=by
 have e1:[Vg].length=1:=rfl
 have e2:[Vg,Yq].length=2:=rfl
 have e3:eV.length=3:=rfl
 have e4:[oJ].length=1:=rfl
 have e5:exB.length=2:=rfl
 refine Be func17 rfl λB D0 hA0=>?_
 refine Ab 14 (Aw (by have h:=Ey Yb ⟨0,0⟩ Qt ⟨Gn,Gn⟩;rwa [Cn (Yp 0 (.inl rfl))] at h) (Ab 3 (Aw (by have h:=Fw kL cQ;rwa [Cn tA] at h) (Ab 11 (Aw (by have h:=Jh Yb kL Qt cQ AdC δ (by rw[exT];decide);rw[exT] at h;exact h) (Ab 32 (Aw (by have h:=Qd Yb ⟨0,0⟩ Qt ⟨Gn,Gn⟩ (Yp 0 (.inl rfl));rw[Ak4.1] at h;exact h) (Ab 11 (Aw (Tw Yb ⟨0,0⟩ Qt ⟨Gn,Gn⟩ (Yp 0 (.inl rfl))) (Ab 9 (Dg [(5,Dx (.slc 3 2 (λxi=>Bs (kL.sides.getD xi V3.zero))) 1,.none),(8,.int 0,.none),(14,Dx (.slc 3 2 (λxi=>Bs (kL.sides.getD xi V3.zero))) 1,.none),(17,.int 300,.none)] [5,10,12,14,16] ⟨Pc 1 2,As (Bb (v:= .int .i64 0) (v':= .int .i64 0) _ κ rfl κ (λw=>by kernel_rfl) rfl),Pc 1 2,As (Bb (v:= .int .i64 300) (v':= .int .i64 300) _ κ rfl κ (λw=>by kernel_rfl) rfl),trivial⟩ (Ab 18 (Aw (Gb ⟨0,300,1000⟩) (Ab 3 (Aw (Gb ⟨0,300,0⟩) (Ab 9 (vH 6 func38 (λ_ hD1=>?_))))))))))))))))))
 refine Ab 18 (Dg [] [0,1,2] trivial (Ab 2 (Ux (Ab 14 (Bi (.bool true) .none (Lc (Xe 62 62 (.tmp 102) (.tmp 103) κ _ _ κ κ κ (decide ((0:Int)=0/\(300:Int)=0/\(1000:Int)=1000)) (Ss _ _ _ _ _ _)) (show (!(decide ((0:Int)=0/\(300:Int)=0/\(1000:Int)=1000)):Bool)=true from by decide)) (Ab 12 (Mm (.int .i64 2800) (.int .i64 2800) (Aw (Rz (a:=⟨0,0,1000⟩) (b:=⟨0,300,1000⟩) (f:=2000) (t:=2800) δ) (Ab 2 (Lw 10 func65 (λ_ hD2=>?_)))))))))))
 refine Ab 24 (AhZ (Ab 11 (Ux (Ab 6 (Mm (.int .i64 2800) (.int .i64 2800) (Ab 12 (Mm (.int .i64 4300) (.int .i64 4300) (Aw (Rz (a:=⟨0,300,1000⟩) (b:=⟨0,300,0⟩) (f:=2800) (t:=4300) δ) (Ab 2 (Lw 10 func65 (λ_ hD3=>?_)))))))))))
 refine Ab 24 (ven (([Vg]).length) (Ab 4 (Dg [(6,_,.none)] [] ⟨Bu (Yc Ak5 Ak7 Aik),trivial⟩ (Ab 1 (Ux (Ab 7 (Mm (.int .i64 4300) (.int .i64 4300) (Ab 17 (Aw (Zd (a:=⟨0,300,0⟩) (f:=4300) (t:=6300) δ) (Ab 2 (Lw 10 func65 (λ_ hD4=>?_))))))))))))
 exact Ab 24 (ven (([Vg,Yq]).length) (Ab 4 (Dg [(6,_,.none)] [] ⟨Bu (Yc Ak6 Al0 Aky),trivial⟩ (Ab 1 (Ux (Ab 24 (Cu)))))))
theorem AlL:AF Tryz.prog 17 [Hc Yb,Jt kL,.lit (.agg #[.int .i64 0,.int .i64 1]),.int 0] (.tup [Bq exB,.int 0]):=by
 have e1:[Vg].length=1:=rfl
 have e2:[Vg,Yq].length=2:=rfl
 have e3:eV.length=3:=rfl
 have e4:[oJ].length=1:=rfl
 have e5:exB.length=2:=rfl
 refine Be func17 rfl λB D0 hA0=>?_
 refine Ab 14 (Aw (by have h:=Ey Yb ⟨0,1⟩ Qt ⟨Gn,Vk⟩;rwa [Cn (Yp 1 (.inr rfl))] at h) (Ab 3 (Aw (by have h:=Fw kL cQ;rwa [Cn tA] at h) (Ab 11 (Aw (by have h:=Jh Yb kL Qt cQ AdC δ (by rw[exT];decide);rw[exT] at h;exact h) (Ab 32 (Aw (by have h:=Qd Yb ⟨0,1⟩ Qt ⟨Gn,Vk⟩ (Yp 1 (.inr rfl));rw[Ak4.2] at h;exact h) (Ab 11 (Aw (Tw Yb ⟨0,1⟩ Qt ⟨Gn,Vk⟩ (Yp 1 (.inr rfl))) (Ab 9 (Dg [(5,Dx (.slc 3 2 (λxi=>Bs (kL.sides.getD xi V3.zero))) 0,.none),(8,.int 0,.none),(14,Dx (.slc 3 2 (λxi=>Bs (kL.sides.getD xi V3.zero))) 0,.none),(17,.int 0,.none)] [5,10,12,14,16] ⟨Pc 0 2,As (Bb (v:= .int .i64 0) (v':= .int .i64 0) _ κ rfl κ (λw=>by kernel_rfl) rfl),Pc 0 2,As (Bb (v:= .int .i64 0) (v':= .int .i64 0) _ κ rfl κ (λw=>by kernel_rfl) rfl),trivial⟩ (Ab 18 (Aw (Gb ⟨0,0,1000⟩) (Ab 3 (Aw (Gb ⟨0,0,0⟩) (Ab 9 (vH 6 func38 (λ_ hD1=>?_))))))))))))))))))
 refine Ab 18 (Dg [] [0,1,2] trivial (Ab 2 (Ux (Ab 14 (Bi (.bool false) .none (Lc (Xe 62 62 (.tmp 102) (.tmp 103) κ _ _ κ κ κ (decide ((0:Int)=0/\(0:Int)=0/\(1000:Int)=1000)) (Ss _ _ _ _ _ _)) (show (!(decide ((0:Int)=0/\(0:Int)=0/\(1000:Int)=1000)):Bool)=false from by decide)) (Ab 14 (Mm (.int .i64 5500) (.int .i64 5500) (Aw (Rz (a:=⟨0,0,1000⟩) (b:=⟨0,0,0⟩) (f:=4000) (t:=5500) δ) (Ab 2 (Lw 10 func65 (λ_ hD2=>?_)))))))))))
 refine Ab 24 (AhZ (Ab 11 (Ux (Ab 7 (Mm (.int .i64 5500) (.int .i64 5500) (Ab 17 (Aw (Zd (a:=⟨0,0,0⟩) (f:=5500) (t:=6300) δ) (Ab 2 (Lw 10 func65 (λ_ hD3=>?_))))))))))
 exact Ab 24 (ven (([oJ]).length) (Ab 4 (Dg [(6,_,.none)] [] ⟨Bu (Yc Al1 Al2 Akz),trivial⟩ (Ab 1 (Ux (Ab 24 (Cu)))))))
theorem at1:AF Tryz.prog 18 [Bq eV,.int 2800] (.lit (.tuple #[.agg #[.int .i64 0,.int .i64 300,.int .i64 1000],.int .i64 0])):=by
 have e:rdL (Fu eV 2800 0)=⟨0,300,1000⟩:=by decide+kernel
 have h:=Aig eV cP AdB 2800 ⟨δ,δ⟩ 0 δ (λj hj=>absurd hj (Nat.not_lt_zero j)) (λj _ hj=>by
  have:j<3:=hj
  match j,this with
  |0,_=>decide
  |1,_=>decide
  |2,_=>decide) δ (by decide+kernel) (by rw[e];exact⟨δ,δ⟩) (by rw[e];exact⟨δ,δ⟩) (by rw[e];exact⟨δ,δ⟩)
 rw[e] at h
 exact h
theorem at2:AF Tryz.prog 18 [Bq eV,.int 4300] (.lit (.tuple #[.agg #[.int .i64 0,.int .i64 300,.int .i64 0],.int .i64 0])):=by
 have e:rdL (Fu eV 4300 1)=⟨0,300,0⟩:=by decide+kernel
 have h:=Aig eV cP AdB 4300 ⟨δ,δ⟩ 1 δ (λj hj=>by
  obtain rfl:j=0:=by omega
  decide) (λj hj1 hj=>by
  have:j<3:=hj
  match j,this with
  |0,_=>omega
  |1,_=>decide
  |2,_=>decide) δ (by decide+kernel) (by rw[e];exact⟨δ,δ⟩) (by rw[e];exact⟨δ,δ⟩) (by rw[e];exact⟨δ,δ⟩)
 rw[e] at h
 exact h
theorem Fk:AF Tryz.prog 7 [] (.bool true):=by
 have hAl:eV.length=3:=rfl
 have hBl:exB.length=2:=rfl
 refine Be func7 rfl λB D0 hA0=>?_
 exact Ab 7 (Aw rO (Ab 13 (Aw (by have h:=Jh Yb kL Qt cQ AdC δ (by rw[exT];decide);rw[exT] at h;exact h) (Ab 12 (Aw AlK (Ab 12 (Aw AlL (Ab 28 (Dy 54 (!decide (((eV).length:Int)=3)) false (congrArg (!·) (decide_eq_true δ)) (Ab 5 (Dy 59 (!decide (((exB).length:Int)=2)) false (congrArg (!·) (decide_eq_true δ)) (Ab 3 (Iz 0 ((eV).length) (Ab 3 (Dy 66 (!decide (((eV).getD 0 Sg.none).f=2000)) false (congrArg (!·) (decide_eq_true δ)) (Ab 3 (Iz 0 ((eV).length) (Ab 3 (Dy 73 (!decide (((eV).getD 0 Sg.none).t=2800)) false (congrArg (!·) (decide_eq_true δ)) (Ab 3 (Iz 1 ((eV).length) (Ab 3 (Dy 80 (!decide (((eV).getD 1 Sg.none).t=4300)) false (congrArg (!·) (decide_eq_true δ)) (Ab 3 (Iz 2 ((eV).length) (Ab 3 (Dy 87 (!decide (((eV).getD 2 Sg.none).t=6300)) false (congrArg (!·) (decide_eq_true δ)) (Ab 3 (Iz 0 ((exB).length) (Ab 3 (Dy 94 (!decide (((exB).getD 0 Sg.none).f=4000)) false (congrArg (!·) (decide_eq_true δ)) (Ab 3 (Iz 0 ((exB).length) (Ab 3 (Dy 101 (!decide (((exB).getD 0 Sg.none).t=5500)) false (congrArg (!·) (decide_eq_true δ)) (Ab 3 (Iz 1 ((exB).length) (Ab 3 (Dy 108 (!decide (((exB).getD 1 Sg.none).t=6300)) false (congrArg (!·) (decide_eq_true δ)) (Ab 9 (Aw at1 (Ab 11 (Aw at2 (Ab 19 (Bi (.bool true) .none (Lc (Uf 62 62 (.tmp 127) (.tmp 128) κ _ _ κ κ κ (decide ((0:Int)=0/\(300:Int)=300/\(1000:Int)=1000)) (Ss _ _ _ _ _ _)) (show (decide ((0:Int)=0/\(300:Int)=300/\(1000:Int)=1000):Bool)=true from by decide)) (Ab 4 (Bi (.bool true) .none (Lc (Uf 62 62 (.tmp 132) (.tmp 133) κ _ _ κ κ κ (decide ((0:Int)=0/\(300:Int)=300/\(0:Int)=0)) (Ss _ _ _ _ _ _)) (show (decide ((0:Int)=0/\(300:Int)=300/\(0:Int)=0):Bool)=true from by decide)) (Ab 5 (Cu)))))))))))))))))))))))))))))))))))))))))))))))))
theorem Aji {p:Pr} {a k:Int} (h:AiF p a k) (ha:a<=1000) (hk:k<=1000) (hl:∀a∈p.acts,Cc a.len):Lf p:=by
 have hm:(1000000:Nat)<=maxLen:=by decide
 refine⟨λs hs=>?_,λx hx=>?_,by have:=h.2.2.1;omega,λx hx=>?_,hl⟩
 obtain⟨i,hi,rfl⟩:=List.getElem_of_mem hs
 have:=h.2.2.2.1 i hi
 rw[List.getD_eq_getElem?_getD,List.getElem?_eq_getElem hi] at this
 simp at this
 omega
 obtain⟨i,hi,rfl⟩:=List.getElem_of_mem hx
 have:=(h.2.2.2.2 i hi).1
 rw[List.getD_eq_getElem?_getD,List.getElem?_eq_getElem hi] at this
 simp at this
 omega
 obtain⟨i,hi,rfl⟩:=List.getElem_of_mem hx
 have:=(h.2.2.2.2 i hi).2
 rw[List.getD_eq_getElem?_getD,List.getElem?_eq_getElem hi] at this
 simp at this
 omega
theorem Yy {f:FuncId} {args:List AV} {σ:List SC} {r:AV} (h:AF Tryz.prog f args r) (hs:shA σ r=true:=by kernel_rfl):∃r,Gm σ r/\AF Tryz.prog f args r:=⟨_,hs,h⟩
theorem Pd (a b:Rw):AF Tryz.prog 94 [Gk a,Gk b] (.bool (Jm a&&Jm b)):=by
 refine Be func94 rfl λB D0 hA0=>?_
 refine Ab 10 (Aw (Gz a) (Ab 1 (vsb 7 (Jm a) (λhx1=>?_) (λhx1=>?_))))
 ·
  exact Ab 1 (Aw (Gz b) (Ab 5 (El (.bool (Jm b)) (congrArg AV.bool (by rw[hx1];rfl)))))
 ·
  exact Ab 7 (El (.bool false) (congrArg AV.bool (by rw[hx1];rfl)))
theorem Afz (x y:Int) (hx:Da x) (hy:Da y):∃r,Gm [.agg [.b,.s],.one .i] r/\AF Tryz.prog 73 [.lit (Ar x),.lit (Ar y)] r:=Yy (nE x y hx hy)
theorem AbJ (a:Rw) (b:Rw) (h:(Jm a&&Jm b)=false):∃r,Gm [.agg [.b,.s],.one .i] r/\AF Tryz.prog 73 [Gk a,Gk b] r:=by
 refine Cd func73 rfl ?_
 exact Ae 13 (gs (Aw (Pd a b) ·) (Ae 3 (eW 9 (!(Jm a&&Jm b)) true (by rw[h];rfl) (Ae 10 (Bl)))))
theorem Afy (a:Rw) (b:Rw):∃r,Gm [.agg [.b,.s],.one .i] r/\AF Tryz.prog 73 [Gk a,Gk b] r:=by
 cases h:(Jm a&&Jm b) with
 |false=>exact AbJ a b h
 |true=>
  obtain⟨h1,h2⟩:=Bool.and_eq_true_iff.1 h
  obtain⟨x,hx,ex⟩:=Lp h1
  obtain⟨y,hy,ey⟩:=Lp h2
  rw[ex,ey]
  exact Afz x y hx hy
noncomputable def AjY (a:Rw) (b:Rw):Value:=Kp 73 [.agg [.b,.s],.one .i] [Gk a,Gk b]
theorem nF (a:Rw) (b:Rw):AF Tryz.prog 73 [Gk a,Gk b] (.lit (Ht [.agg [.b,.s],.one .i] (AjY a b))):=Bv (Afy a b)
theorem AfH (x y:Int) (hx:Da x) (hy:Da y):∃r,Gm [.agg [.b,.s],.one .i] r/\AF Tryz.prog 215 [.lit (Ar x),.lit (Ar y)] r:=Yy (Ac8 x y hx hy)
theorem AbT (a:Rw) (b:Rw) (h:(Jm a&&Jm b)=false):∃r,Gm [.agg [.b,.s],.one .i] r/\AF Tryz.prog 215 [Gk a,Gk b] r:=by
 refine Cd func215 rfl ?_
 exact Ae 13 (gs (Aw (Pd a b) ·) (Ae 3 (eW 9 (!(Jm a&&Jm b)) true (by rw[h];rfl) (Ae 10 (Bl)))))
theorem AfG (a:Rw) (b:Rw):∃r,Gm [.agg [.b,.s],.one .i] r/\AF Tryz.prog 215 [Gk a,Gk b] r:=by
 cases h:(Jm a&&Jm b) with
 |false=>exact AbT a b h
 |true=>
  obtain⟨h1,h2⟩:=Bool.and_eq_true_iff.1 h
  obtain⟨x,hx,ex⟩:=Lp h1
  obtain⟨y,hy,ey⟩:=Lp h2
  rw[ex,ey]
  exact AfH x y hx hy
noncomputable def Akf (a:Rw) (b:Rw):Value:=Kp 215 [.agg [.b,.s],.one .i] [Gk a,Gk b]
theorem Ac9 (a:Rw) (b:Rw):AF Tryz.prog 215 [Gk a,Gk b] (.lit (Ht [.agg [.b,.s],.one .i] (Akf a b))):=Bv (AfG a b)
theorem Af8 (x y:Int) (hx:Da x) (hy:Da y):∃r,Gm [.agg [.b,.s],.one .i] r/\AF Tryz.prog 112 [.lit (Ar x),.lit (Ar y)] r:=Yy (nJ x y hx hy)
theorem AbO (a:Rw) (b:Rw) (h:(Jm a&&Jm b)=false):∃r,Gm [.agg [.b,.s],.one .i] r/\AF Tryz.prog 112 [Gk a,Gk b] r:=by
 refine Cd func112 rfl ?_
 exact Ae 13 (gs (Aw (Pd a b) ·) (Ae 3 (eW 9 (!(Jm a&&Jm b)) true (by rw[h];rfl) (Ae 10 (Bl)))))
theorem Af7 (a:Rw) (b:Rw):∃r,Gm [.agg [.b,.s],.one .i] r/\AF Tryz.prog 112 [Gk a,Gk b] r:=by
 cases h:(Jm a&&Jm b) with
 |false=>exact AbO a b h
 |true=>
  obtain⟨h1,h2⟩:=Bool.and_eq_true_iff.1 h
  obtain⟨x,hx,ex⟩:=Lp h1
  obtain⟨y,hy,ey⟩:=Lp h2
  rw[ex,ey]
  exact Af8 x y hx hy
noncomputable def Akc (a:Rw) (b:Rw):Value:=Kp 112 [.agg [.b,.s],.one .i] [Gk a,Gk b]
theorem bK (a:Rw) (b:Rw):AF Tryz.prog 112 [Gk a,Gk b] (.lit (Ht [.agg [.b,.s],.one .i] (Akc a b))):=Bv (Af7 a b)
theorem Af1 (x y:Int) (hx:Da x) (hy:Da y):∃r,Gm [.one .i] r/\AF Tryz.prog 126 [.lit (Ar x),.lit (Ar y)] r:=Yy (Ze x y hx hy)
theorem AbK (a:Rw) (b:Rw) (h:(Jm a&&Jm b)=false):∃r,Gm [.one .i] r/\AF Tryz.prog 126 [Gk a,Gk b] r:=by
 refine Cd func126 rfl ?_
 exact Ae 12 (gs (Aw (Pd a b) ·) (Ae 3 (eW 8 (!(Jm a&&Jm b)) true (by rw[h];rfl) (Ae 8 (Bl)))))
theorem Af0 (a:Rw) (b:Rw):∃r,Gm [.one .i] r/\AF Tryz.prog 126 [Gk a,Gk b] r:=by
 cases h:(Jm a&&Jm b) with
 |false=>exact AbK a b h
 |true=>
  obtain⟨h1,h2⟩:=Bool.and_eq_true_iff.1 h
  obtain⟨x,hx,ex⟩:=Lp h1
  obtain⟨y,hy,ey⟩:=Lp h2
  rw[ex,ey]
  exact Af1 x y hx hy
noncomputable def AjZ (a:Rw) (b:Rw):Value:=Kp 126 [.one .i] [Gk a,Gk b]
theorem Sd (a:Rw) (b:Rw):AF Tryz.prog 126 [Gk a,Gk b] (.lit (Ht [.one .i] (AjZ a b))):=Bv (Af0 a b)
theorem AfA (x:Int) (hx:Da x):∃r,Gm [.agg [.b,.s],.one .i] r/\AF Tryz.prog 135 [.lit (Ar x)] r:=Yy (Ac6 x hx)
theorem AbP (a:Rw) (h:Jm a=false):∃r,Gm [.agg [.b,.s],.one .i] r/\AF Tryz.prog 135 [Gk a] r:=by
 refine Cd func135 rfl ?_
 exact Ae 11 (gs (Aw (Gz a) ·) (Ae 3 (eW 6 (!Jm a) true (by rw[h];rfl) (Ae 10 (Bl)))))
theorem Af9 (a:Rw):∃r,Gm [.agg [.b,.s],.one .i] r/\AF Tryz.prog 135 [Gk a] r:=by
 cases h:Jm a with
 |false=>exact AbP a h
 |true=>
  obtain⟨x,hx,ex⟩:=Lp h
  rw[ex]
  exact AfA x hx
noncomputable def Akd (a:Rw):Value:=Kp 135 [.agg [.b,.s],.one .i] [Gk a]
theorem Ac7 (a:Rw):AF Tryz.prog 135 [Gk a] (.lit (Ht [.agg [.b,.s],.one .i] (Akd a))):=Bv (Af9 a)
theorem Af6 (x:Int) (hx:Da x):∃r,Gm [.one .i] r/\AF Tryz.prog 198 [.lit (Ar x)] r:=Yy (vZ x hx)
theorem AbN (a:Rw) (h:Jm a=false):∃r,Gm [.one .i] r/\AF Tryz.prog 198 [Gk a] r:=by
 refine Cd func198 rfl ?_
 exact Ae 10 (gs (Aw (Gz a) ·) (Ae 3 (eW 5 (!Jm a) true (by rw[h];rfl) (Ae 8 (Bl)))))
theorem Af5 (a:Rw):∃r,Gm [.one .i] r/\AF Tryz.prog 198 [Gk a] r:=by
 cases h:Jm a with
 |false=>exact AbN a h
 |true=>
  obtain⟨x,hx,ex⟩:=Lp h
  rw[ex]
  exact Af6 x hx
noncomputable def Akb (a:Rw):Value:=Kp 198 [.one .i] [Gk a]
theorem Ac5 (a:Rw):AF Tryz.prog 198 [Gk a] (.lit (Ht [.one .i] (Akb a))):=Bv (Af5 a)
theorem Aid (n:Int):∃r,Gm [.agg [.b,.s]] r/\AF Tryz.prog 89 [.int n] r:=by
 have hd1:=Xv n
 have hd2:=Xv (0-((Dc n:Nat):Int))
 refine Cd func89 rfl ?_
 refine Ae 8 (gs (λh9=>Mm (.int .u64 (IntKind.wrap .u64 n)) (.int .u64 ((Dc n:Nat):Int)) h9 (congrArg (Value.int .u64) (Uk n))) (Ae 10 (Ff 9 ?_ ?_)))
 exact Ae 3 (gs (λh9=>Mm (.int .u64 (IntKind.wrap .u64 (0-((Dc n:Nat):Int)))) (.int .u64 ((Dc (0-((Dc n:Nat):Int)):Nat):Int)) h9 (congrArg (Value.int .u64) (Uk _))) (Ae 8 (gs (Bi (.osl 1 1 1) (.new 1 (.vec 135 1 1 (λ_=> .lit (.int .u64 ((Dc (0-((Dc n:Nat):Int)):Nat):Int))))) (Au 131 1 #[(0,(.tmp 15))] κ underlying131 1 sizeOf135 _ zeroValue135 κ β β β 1 [.lit (.int .u64 ((Dc (0-((Dc n:Nat):Int)):Nat):Int))] κ (λ_=> .lit (.int .u64 ((Dc (0-((Dc n:Nat):Int)):Nat):Int))) κ) ·) (gs (Bi (Ed (Dc (0-((Dc n:Nat):Int)))) (.drop 1) (Im 113 #[.tmp 16] #[131] κ (λ_ _=>by kernel_rfl) 1 (.vec 135 1 1 (λ_=> .lit (.int .u64 ((Dc (0-((Dc n:Nat):Int)):Nat):Int)))) κ (λ_ _ _ _ h=>by cases h;exact(Fe λ_ _=>rfl)) [.osl 1 1 1] κ [.slc 1 1 (λ_=> .lit (.int .u64 ((Dc (0-((Dc n:Nat):Int)):Nat):Int)))] κ (Ed (Dc (0-((Dc n:Nat):Int)))) (Wh (Dc (0-((Dc n:Nat):Int))) (Xw _))) ·) (Ae 1 (Eh (Mx (decide (n<0)) (Dc (0-((Dc n:Nat):Int))) ω) λv1 hv1=>(gs (Aw hv1 ·) (Ae 15 (Bl)))))))))
 exact Ae 8 (gs (Bi (.osl 1 1 1) (.new 1 (.vec 135 1 1 (λ_=> .lit (.int .u64 ((Dc n:Nat):Int))))) (Au 131 1 #[(0,(.tmp 15))] κ underlying131 1 sizeOf135 _ zeroValue135 κ β β β 1 [.lit (.int .u64 ((Dc n:Nat):Int))] κ (λ_=> .lit (.int .u64 ((Dc n:Nat):Int))) κ) ·) (gs (Bi (Ed (Dc n)) (.drop 1) (Im 113 #[.tmp 16] #[131] κ (λ_ _=>by kernel_rfl) 1 (.vec 135 1 1 (λ_=> .lit (.int .u64 ((Dc n:Nat):Int)))) κ (λ_ _ _ _ h=>by cases h;exact(Fe λ_ _=>rfl)) [.osl 1 1 1] κ [.slc 1 1 (λ_=> .lit (.int .u64 ((Dc n:Nat):Int)))] κ (Ed (Dc n)) (Wh (Dc n) (Xw _))) ·) (Ae 1 (Eh (Mx (decide (n<0)) (Dc n) ω) λv2 hv2=>(gs (Aw hv2 ·) (Ae 15 (Bl)))))))
noncomputable def Alf (n:Int):Value:=Kp 89 [.agg [.b,.s]] [.int n]
theorem Ma (n:Int):AF Tryz.prog 89 [.int n] (.lit (Ht [.agg [.b,.s]] (Alf n))):=Bv (Aid n)
def Hu (c:Nat->Int):Nat->Nat
 |0=>0
 |n+1=>if c n=0 then Hu c n else n+1
abbrev Kj (n:Nat) (c:Nat->Int):AV:= .sl 2 n λi=>WA (c i)
abbrev Aiy (n:Nat) (c:Nat->Int):AV:= .slc 2 n λi=>WA (c i)
theorem Xu (c:Nat->Int):∀n,Hu c n<=n
 |0=>Nat.le_refl _
 |n+1=>by
  unfold Hu
  split
  exact Nat.le_succ_of_le (Xu c n)
  exact Nat.le_refl _
theorem eN (c:Nat->Int):∀n,Hu c n=0\/c (Hu c n-1)≠0
 |0=> .inl rfl
 |n+1=>by
  unfold Hu
  split
  exact eN c n
  rename_i h;exact .inr h
theorem Ab7 {c:Nat->Int} {n:Nat} (h:n=0\/c (n-1)≠0):Hu c n=n:=by
 cases n with
 |zero=>rfl
 |succ n=>
  unfold Hu
  rcases h with h|h
  cases h
  exact if_neg h
theorem Yz {x:Int}:x.sign=0↔x=0:=Int.sign_eq_zero_iff_zero
theorem vD {c:Nat->Int} {q:Nat} (hq:0<q) (h:(c (q-1)).sign=0):Hu c q=Hu c (q-1):=by
 obtain⟨k,rfl⟩:∃k,q=k+1:=⟨q-1,ω⟩
 rw[Nat.add_sub_cancel] at h ⊢
 rw[Hu,if_pos (Yz.1 h)]
theorem eO {c:Nat->Int} {q n:Nat} (h0:Hu c q=Hu c n) (h:q=0\/(c (q-1)).sign≠0):q=Hu c n:=by
 rw[<-h0]
 exact(Ab7 (h.imp id λh e=>h (Yz.2 e))).symm
theorem vW (n:Nat) (c:Nat->Int) (hn:n<=1000000) (hc:∀i,i<n->Da (c i)):AF Tryz.prog 165 [Aiy n c] (Kj (Hu c n) c):=by
 refine Be func165 rfl λB D0 hA0=>?_
 refine Ab 7 (vlp [0] (λm s=>∃m1,m=m1+1/\(m1<=n/\Hu c m1=Hu c n)/\s=⟨[(0,Aiy m1 c)],[],0,22⟩) (n+1) ⟨n,rfl,⟨Nat.le_refl _,rfl⟩,κ⟩ ?_)
 rintro _ _ ⟨m1,rfl,hF,rfl⟩ J1 hJ1
 obtain⟨hF1,hF2⟩:=hF
 refine Ab 7 (He 6 ((0:Int)<((m1:Nat):Int)) (λhx1 hx1d=>?_) (λhx1 hx1d=>?_))
 ·
  refine Ab 3 (Dm (((m1:Nat):Int)-1) ((m1-1:Nat):Int) (Iz (m1-1) m1 (Ab 1 (Aw (Mz (c (m1-1)) (hc _ ω)) (Ab 4 (He 15 ((c (m1-1)).sign=0) (λhx2 hx2d=>?_) (λhx2 hx2d=>?_)))))))
  ·
   exact Ab 8 (Dm (((m1:Nat):Int)-1) ((m1-1:Nat):Int) (Bi (.slc 2 (m1-1) (λi0=> .lit (Ar (c i0)))) .none (fF 194 (.tmp 16) (.tmp 19) κ underlying194 2 m1 sizeOf94 (λi0=> .lit (Ar (c i0))) κ (m1-1) ((m1-1:Nat):Int) κ ω ω) (Ab 3 (eX [0] (hJ1 _ _ (by omega:m1-1+1<m1+1) ⟨m1-1,rfl,⟨ω,(vD ω hx2d).symm.trans hF2⟩,rfl⟩)))))
  ·
   exact Ab 6 (vwk 0 (Ab 7 (El (.sl 2 m1 (λi0=> .lit (Ar (c i0)))) (congrArg (λz=>Kj z c) (eO hF2 ω)))))
 ·
  exact Ab 17 (vwk 0 (Ab 7 (El (.sl 2 m1 (λi0=> .lit (Ar (c i0)))) (congrArg (λz=>Kj z c) (eO hF2 ω)))))
theorem mL (x:Int):AFM Tryz.prog 199 245 [.int .i64 0] [WA x,.int 0] (Ar x):=by
 refine tE func199 rfl λB D0 hA0=>?_
 exact Ab 32 (AjU (.lit (Ar x)) κ)
theorem aL (x y:Int) (hx:Da x) (hy:Da y) (hz:Da (x*y)):AFM Tryz.prog 169 245 [.int .i64 0] [WA x,WA y] (Ar (x*y)):=by
 refine tE func169 rfl λB D0 hA0=>?_
 exact Ab 8 (Dg [(5,_,.none),(8,.lit (Ar (x*y)),(.set 0 (.box 245 [.int 0])))] [6] ⟨Bu (wA x y hx hy hz),As (Jv 199 #[.tmp 9,.tmp 13,.tmp 14] #[243,94,38] κ (λ_ _=>by kernel_rfl) 0 245 [.int .i64 0] κ [.lit (Ar (x*y)),.int 0] κ κ (Ar (x*y)) (mL (x*y))),trivial⟩ (Ab 2 (AjU (.lit (Ar (x*y))) κ)))
theorem vR (x y:Int) (hx:Da x) (hy:Da y) (hz:Da (x+y)):AFM Tryz.prog 170 245 [.int .i64 0] [WA x,WA y] (Ar (x+y)):=by
 refine tE func170 rfl λB D0 hA0=>?_
 exact Ab 8 (Dg [(5,_,.none),(8,.lit (Ar (x+y)),(.set 0 (.box 245 [.int 0])))] [6] ⟨Bu (vX x y hx hy hz),As (Jv 199 #[.tmp 9,.tmp 13,.tmp 14] #[243,94,38] κ (λ_ _=>by kernel_rfl) 0 245 [.int .i64 0] κ [.lit (Ar (x+y)),.int 0] κ κ (Ar (x+y)) (mL (x+y))),trivial⟩ (Ab 2 (AjU (.lit (Ar (x+y))) κ)))
theorem AkT {c:Nat->Int} {n:Nat} (hl:n=0\/c (n-1)≠0) (h:n≠0):(!decide ((c (n-1)).sign=0))=true:=by
 have h9:¬(c (n-1)).sign=0:=λe=>by
  rcases hl with g|g
  exact h g
  exact g (Yz.1 e)
 rw[decide_eq_false h9];rfl
theorem Wg (n:Nat) (c:Nat->Int) (hn:n<=25) (hc:∀i,i<n->Da (c i)) (hl:n=0\/c (n-1)≠0):AF Tryz.prog 166 [Kj n c] (.bool true):=by
 refine Be func166 rfl λB D0 hA0=>?_
 refine Ab 14 (Vw [0,5,6,7] n (λi=>True) (λi=>⟨[(0,Kj n c),(5,Kj n c),(6,.int (n:Int)),(7,.int (i:Int))],[],0,33⟩) trivial (λi hin hFi J1 hJ1=>?_))
 refine Ab 6 (He 8 ((i:Int)<(n:Int)) (λhx1 hx1d=>?_) (λhx1 hx1d=>?_))
 ·
  exact Ab 7 (Iz i n (Ab 8 (Aw (Fh (c i) (hc _ ω)) (Ab 8 (Dm ((i:Int)+1) ((i+1:Nat):Int) (Ab 2 (Xx [0,5,6,7] [] 0 0 hA0 [] trivial (hJ1 ω trivial))))))))
 ·
  refine Ab 12 (Dy 18 (decide ((n:Int)<=25)) true (decide_eq_true ω) (Ab 4 (He 22 ((n:Int)=0) (λhx2 hx2d=>?_) (λhx2 hx2d=>?_))))
  ·
   exact Ab 14 (Cu)
  ·
   exact Ab 3 (Dm ((n:Int)-1) ((n-1:Nat):Int) (Iz (n-1) n (Ab 1 (Aw (Mz (c (n-1)) (hc _ ω)) (Ab 7 (El (.bool (!decide ((c (n-1)).sign=0))) (congrArg AV.bool (AkT hl ω))))))))
def Eu (c:Nat->Int):Nat->Int
 |0=>0
 |n+1=>max (Eu c n) (bitLen (c n).natAbs:Int)
theorem qN {c:Nat->Int} {k:Nat}:∀n,(∀i,i<n->bitLen (c i).natAbs<=k)->0<=Eu c n/\Eu c n<=(k:Int)
 |0,_=>⟨Int.le_refl _,by show (0:Int)<=_;omega⟩
 |n+1,h=>by
  have h1:=qN n λi hi=>h i ω
  have h2:=h n (Nat.lt_succ_self n)
  unfold Eu
  omega
theorem vV (n:Nat) (c:Nat->Int) (hn:n<=1000000) (hc:∀i,i<n->Da (c i)):AF Tryz.prog 168 [Kj n c] (.int (Eu c n)):=by
 refine Be func168 rfl λB D0 hA0=>?_
 refine Ab 19 (Vw [3,6,7,8] n (λi=>True) (λi=>⟨[(3,.int (Eu c i)),(6,Kj n c),(7,.int (n:Int)),(8,.int (i:Int))],[],0,18⟩) trivial (λi hin hFi J1 hJ1=>?_))
 refine Ab 6 (He 9 ((i:Int)<(n:Int)) (λhx1 hx1d=>?_) (λhx1 hx1d=>?_))
 ·
  exact Ab 7 (Iz i n (Ab 8 (Aw (vZ (c i) (hc _ ω)) (Bi (.int (max (Eu c i) (bitLen (c i).natAbs:Int))) .none (Of (.tmp 12) (.tmp 14) #[3,3] κ (Eu c i) (bitLen (c i).natAbs:Int) κ κ) (Ab 5 (Dm ((i:Int)+1) ((i+1:Nat):Int) (Ab 2 (Xx [3,6,7,8] [] 0 0 hA0 [] trivial (hJ1 ω trivial)))))))))
 ·
  exact Ab 13 (El (.int (Eu c i)) (congrArg (λz=>AV.int (Eu c z)) (show _=n by omega)))
end Go.Proofs.YtikinphpaiajfaaGreat
namespace Go.Proofs.YtikinphpaiajfaaGreat
open Go.Proofs.Tryz
open Go.RowKit
abbrev mF (l:List Int) (i:Nat):Int:=l.getD i 0
theorem zH (l:List Int) (hl:0<l.length) (hn:l.length<=25) (hc:∀i,Cc (l.getD i 0)):AF Tryz.prog 127 [Bn l] (.tup [Kj (Hu (mF l) l.length) (mF l),.int 0]):=by
 have hle:=Xu (mF l) l.length
 refine Be func127 rfl λB D0 hA0=>?_
 refine Ab 20 (vlp [4,7,8,9] (λm s=>∃i,i<=l.length/\m=l.length-i/\True/\((i=0/\s=⟨[(4,.lit (.slice none 0 0)),(7,Bn l),(8,.int (l.length:Int)),(9,.int ((0:Nat):Int))],[],0,25⟩)\/(0<i/\s=⟨[(4,.osl 9 2 i),(7,Bn l),(8,.int (l.length:Int)),(9,.int (i:Int))],[(9,.vec 94 2 i (λxi=>WA (mF l xi)))],10,25⟩))) l.length ⟨0,Nat.zero_le _,rfl,trivial,.inl ⟨rfl,κ⟩⟩ ?_)
 rintro _ _ ⟨i,hin,rfl,hFi,(⟨hi0,rfl⟩|⟨hi0,rfl⟩)⟩ J1 hJ1
 ·
  subst hi0
  refine Ab 6 (He 10 (((0:Nat):Int)<(l.length:Int)) (λhx1 hx1d=>?_) (λhx1 hx1d=>?_))
  ·
   exact Ab 7 (Iz 0 l.length (Ab 7 (Aw (Hk ((l).getD 0 0) (hc _).1 (hc _).2) (Bi (.osl 0 2 1) (.new 0 (.vec 94 2 1 (λ_=> .lit (Ar ((l).getD 0 0))))) (Au 194 1 #[(0,(.tmp 15))] κ underlying194 2 sizeOf94 _ zeroValue94 κ β β β 0 [.bool (decide ((l).getD 0 0<0)),.lit (.string (Dd ((l).getD 0 0).natAbs))] κ (λ_=> .lit (Ar ((l).getD 0 0))) κ) (Bi (.osl 1 2 1) (.newr 0 1 (.vec 94 2 1 (λxi=>WA (mF l xi)))) (Jp (.tmp 13) (.tmp 16) 194 κ underlying194 2 24 (.agg #[.bool false,.string ⟨#[]⟩]) κ κ δ 1 ω (λ_=> .lit (Ar ((l).getD 0 0))) (λxi=>WA (mF l xi)) 1 (λi hi=>by(obtain rfl:i=0:=(ω));rfl) (λi hi j hj=>match j,hj with|0,_=>rfl|1,_=>rfl|_+2,h=>absurd h ω) (by unfold maxLen;omega) ω κ 0 94 κ κ) (Ab 5 (Dm (((0:Nat):Int)+1) ((0+1:Nat):Int) (Ab 2 (Xx [4,7,8,9] [(1,9)] 10 0 hA0 [(94,2,1,(λ_=> .lit (Ar ((l).getD 0 0)))),(94,2,1,(λxi=>WA (mF l xi)))] ⟨(Fe λ_ _=>rfl),(Fe λ_ _=>rfl),trivial⟩ (hJ1 _ _ (by omega:l.length-(0+1)<l.length-0) ⟨0+1,ω,rfl,trivial,.inr ⟨Nat.succ_pos _,rfl⟩⟩))))))))))
  ·
   refine Ab 6 ?_
   exfalso;omega
 ·
  refine Ab 6 (He 10 ((i:Int)<(l.length:Int)) (λhx2 hx2d=>?_) (λhx2 hx2d=>?_))
  ·
   exact Ab 7 (Iz i l.length (Ab 7 (Aw (Hk ((l).getD i 0) (hc _).1 (hc _).2) (Bi (.osl 10 2 1) (.new 10 (.vec 94 2 1 (λ_=> .lit (Ar ((l).getD i 0))))) (Au 194 1 #[(0,(.tmp 15))] κ underlying194 2 sizeOf94 _ zeroValue94 κ β β β 10 [.bool (decide ((l).getD i 0<0)),.lit (.string (Dd ((l).getD i 0).natAbs))] κ (λ_=> .lit (Ar ((l).getD i 0))) κ) (Bi (.osl 11 2 (i+1)) (.grow2 9 10 11 (.vec 94 2 (i+1) (λxi=>WA (mF l xi)))) (Em (.tmp 13) (.tmp 16) 194 κ underlying194 2 24 (.agg #[.bool false,.string ⟨#[]⟩]) κ κ δ i 1 ω (λxi=>WA (mF l xi)) (λ_=> .lit (Ar ((l).getD i 0))) (λxi=>WA (mF l xi)) 11 ω (by unfold maxLen;omega) (λi hi=>rfl) (λi hi=>by(obtain rfl:i=0:=(ω));rfl) (λi hi j hj=>match j,hj with|0,_=>rfl|1,_=>rfl|_+2,h=>absurd h ω) 9 κ κ 10 94 κ κ) (Ab 5 (Dm ((i:Int)+1) ((i+1:Nat):Int) (Ab 2 (Xx [4,7,8,9] [(11,9)] 10 0 hA0 [(94,2,1,(λ_=> .lit (Ar ((l).getD i 0)))),(94,2,i+1,(λxi=>WA (mF l xi)))] ⟨(Fe λ_ _=>rfl),(Fe λ_ _=>rfl),trivial⟩ (hJ1 _ _ (by omega:l.length-(i+1)<l.length-i) ⟨i+1,ω,rfl,trivial,.inr ⟨Nat.succ_pos _,rfl⟩⟩))))))))))
  ·
   refine Ab 6 ?_
   have hie:i=l.length:=by omega
   subst hie
   exact Ai2 9 [4] 94 2 l.length (λxi=>WA (mF l xi)) (Fe λ_ _=>rfl) (Ab 3 (Aw (vW l.length (mF l) ω (λi _=>Ju (hc i))) (Ab 11 (Dy 23 (decide ((25:Int)<(Hu (mF l) l.length:Int))) false (decide_eq_false ω) (Ab 11 (Cu))))))
def Nd (a b:Int) (c:Nat->Int) (t k:Nat):Int:=if k<t then (if k=0 then 0 else c (k-1)*b)+c k*a else if k=t/\0<t then c (t-1)*b else 0
theorem Aec (a b:Int) (c:Nat->Int) (k:Nat):WA 0=WA (Nd a b c 0 k):=by
 unfold Nd
 rw[if_neg (Nat.not_lt_zero k),if_neg ω]
theorem Aeb (a b:Int) (c:Nat->Int) (t k:Nat):(if k=t+1 then WA (c t*b) else if k=t then WA (Nd a b c t t+c t*a) else WA (Nd a b c t k))=WA (Nd a b c (t+1) k):=by
 by_cases h1:k=t+1
 rw[if_pos h1]
 unfold Nd
 rw[if_neg ω,if_pos ω,Nat.add_sub_cancel]
 rw[if_neg h1]
 by_cases h2:k=t
 subst h2
 rw[if_pos rfl]
 unfold Nd
 rw[if_neg (Nat.lt_irrefl k),if_pos (Nat.lt_succ_self k)]
 by_cases h3:k=0
 subst h3;rw[if_neg ω,if_pos rfl]
 rw[if_pos ω,if_neg h3]
 rw[if_neg h2]
 by_cases h3:k<t
 rw[Nd,Nd,if_pos h3,if_pos (show k<t+1 by omega)]
 rw[Nd,Nd,if_neg h3,if_neg ω,if_neg ω,if_neg ω]
def Mf (d:Int):Nat->Int
 |0=>1
 |k+1=>Mf d k*d
theorem lM (d:Int):∀k,Mf d k=d^k
 |0=>by rw[Int.pow_zero];rfl
 |k+1=>by rw[Mf,lM d k,Int.pow_succ]
def cN (p:Nat->Int) (m:Nat) (a b d:Int):Nat->Nat->Int
 |0,_=>p (m-1)
 |j+1,k=>Nd a b (cN p m a b d j) (j+1) k+(if k=0 then p (m-2-j)*Mf d (j+1) else 0)
theorem Agy (p:Nat->Int) (m:Nat) (a b d:Int) (j k:Nat) {q:Nat} (hq:q=m-2-j):(if k=0 then WA (Nd a b (cN p m a b d j) (j+1) 0+p q*Mf d (j+1)) else WA (Nd a b (cN p m a b d j) (j+1) k))=WA (cN p m a b d (j+1) k):=by
 subst hq
 rw[cN]
 by_cases h:k=0
 subst h;rw[if_pos rfl,if_pos rfl]
 rw[if_neg h,if_neg h,Int.add_zero]
theorem Aea {a b:Int} {c:Nat->Int} {e:Nat} (ha:Cc a) (hb:Cc b) (hc:∀k,Bd e (c k)) (t k:Nat):Bd (e+64) (Nd a b c t k):=by
 have h1:∀k,Bd (e+63) (c k*a):=λk=>(hc k).mul (Bd.int ha.1 ha.2)
 have h2:∀k,Bd (e+63) (c k*b):=λk=>(hc k).mul (Bd.int hb.1 hb.2)
 unfold Nd
 split
 refine Bd.add (e:=e+63) ?_ (h1 k)
 split
 exact Bd.zero _
 exact h2 _
 split
 exact(h2 _).mono ω
 exact Bd.zero _
theorem wO {p:Nat->Int} {m:Nat} {a b d:Int} (hp:∀i,Cc (p i)) (ha:Cc a) (hb:Cc b) (hd:Cc d):∀j k,Bd (70*j+63) (cN p m a b d j k)
 |0,_=>Bd.int (hp _).1 (hp _).2
 |j+1,k=>by
  have h1:=Aea ha hb (wO (m:=m) hp ha hb hd j) (j+1) k
  rw[cN]
  refine(Bd.add (e:=70*j+63+64) (h1.mono (Nat.le_refl _)) ?_).mono ω
  split
  rw[lM];exact((Bd.int (hp _).1 (hp _).2).mul ((Bd.int hd.1 hd.2).pow (j+1))).mono ω
  exact Bd.zero _
def c3 (a b d:Int):Nat->Int
 |0=>a
 |1=>b
 |_=>d
theorem Aim {a b d:Int} (ha:Cc a) (hb:Cc b) (hd:Cc d):∀i,Cc (c3 a b d i)
 |0=>ha
 |1=>hb
 |_+2=>hd
theorem Afd {c:Nat->Int} {n:Nat} (h:∀i,Cc (c i)):0<=Eu c n/\Eu c n<=64:=qN (k:=64) n λi _=>by
 have:=(Bd.int (h i).1 (h i).2).le
 exact Gp.2 ω
theorem mS (k0:Nat) (p:Nat->Int) (a b d:Int) (hm:k0<=5) (hp:∀i,Cc (p i)) (hl:p k0≠0) (ha:Cc a) (hb:Cc b) (hd:Cc d) (hdp:0<d):AF Tryz.prog 128 [Kj (k0+1) p,WA a,WA b,WA d] (.tup [Kj (Hu (cN p (k0+1) a b d k0) (k0+1)) (cN p (k0+1) a b d k0),.int 0]):=by
 have hsp:=Afd (n:=k0+1) hp
 have hs3:=Afd (n:=3) (Aim ha hb hd)
 have hml:0<=((k0+1-1:Nat):Int)*(Eu (c3 a b d) 3+1)/\((k0+1-1:Nat):Int)*(Eu (c3 a b d) 3+1)<=325:=⟨Int.mul_nonneg ω ω,Int.le_trans (Int.mul_le_mul (show ((k0+1-1:Nat):Int)<=5 by omega) (show Eu (c3 a b d) 3+1<=65 by omega) ω ω) δ⟩
 have fc:∀j k,j<=6->Da (cN p (k0+1) a b d j k):=λj k hj=>(wO hp ha hb hd j k).fit ω
 have fi:∀j t k,j<=6->Bd 600 (Nd a b (cN p (k0+1) a b d j) t k):=λj t k hj=>(Aea ha hb (wO hp ha hb hd j) t k).mono ω
 have fm:∀j k y,j<=6->Cc y->Bd 600 (cN p (k0+1) a b d j k*y):=λj k y hj hy=>((wO hp ha hb hd j k).mul (Bd.int hy.1 hy.2)).mono ω
 have fd:∀j,j<=6->Bd 500 (Mf d j):=λj hj=>by rw[lM];exact((Bd.int hd.1 hd.2).pow j).mono ω
 have fp:∀i j,j<=6->Bd 600 (p i*Mf d j):=λi j hj=>((Bd.int (hp i).1 (hp i).2).mul (fd j hj)).mono ω
 refine Be func128 rfl λB D0 hA0=>?_
 refine Ab 13 (Aw (Wg (k0+1) p ω (λi _=>Ju (hp i)) (.inr hl)) (Ab 3 (Aw (Fh _ (Ju ha)) (Ab 4 (Aw (Fh _ (Ju hb)) (Ab 4 (Aw (Fh _ (Ju hd)) (Ab 11 (Aw (Mz d (Ju hd)) (Ab 3 (Dy 37 (decide (d.sign<=0)) false (decide_eq_false (by rw[Int.sign_eq_one_of_pos hdp];decide)) (Ab 11 (Dy 40 (decide (((k0+1:Nat):Int)=0)) false (decide_eq_false ω) (Ab 5 (Dg [(1,_,.none),(4,.int ((k0+1-1:Nat):Int),.none),(8,.osl 3 2 3,(.new 3 (.vec 94 2 3 (λxi=>WA (c3 a b d xi))))),(9,.int (Eu (c3 a b d) 3),(.read 3)),(10,.int (Eu (c3 a b d) 3+1),.none),(11,.int (((k0+1-1:Nat):Int)*(Eu (c3 a b d) 3+1)),.none),(12,.int (Eu p (k0+1)+((k0+1-1:Nat):Int)*(Eu (c3 a b d) 3+1)),.none),(13,.int (Eu p (k0+1)+((k0+1-1:Nat):Int)*(Eu (c3 a b d) 3+1)+8),.none),(14,.bool false,.none)] [0,5,6,7,55] ⟨Bu (vV (k0+1) p ω (λi _=>Ju (hp i))),As (Bb (v:= .int .i64 (IntKind.wrap .i64 (((k0+1:Nat):Int)-1))) (v':= .int .i64 ((k0+1-1:Nat):Int)) _ κ rfl κ (λw=>by kernel_rfl) (congrArg (Value.int .i64) ((IntWalk.i64_in _ ω).trans ω))),As (Au 193 3 #[(0,(.tmp 46)),(1,(.tmp 47)),(2,(.tmp 48))] κ underlying193 2 sizeOf94 _ zeroValue94 κ β β β 3 [.bool (decide (a<0)),.lit (.string (Dd (a).natAbs)),.bool (decide (b<0)),.lit (.string (Dd (b).natAbs)),.bool (decide (d<0)),.lit (.string (Dd (d).natAbs))] κ (λxi=>WA (c3 a b d xi)) κ),As (AaO 168 #[.tmp 49] #[193] κ (λ_ _=>by kernel_rfl) 3 (.vec 94 2 3 (λxi=>WA (c3 a b d xi))) κ (λ_ _ _ _ h=>by cases h;exact(Fe λ_ _=>rfl)) [.osl 3 2 3] κ [.sl 2 3 (λxi=>WA (c3 a b d xi))] κ (.int .i64 (Eu (c3 a b d) 3)) (vV 3 (c3 a b d) ω (λi _=>Ju (Aim ha hb hd i)))),As (Bb (v:= .int .i64 (IntKind.wrap .i64 (Eu (c3 a b d) 3+1))) (v':= .int .i64 (Eu (c3 a b d) 3+1)) _ κ rfl κ (λw=>by kernel_rfl) (congrArg (Value.int .i64) ((IntWalk.i64_in _ ω).trans ω))),As (Bb (v:= .int .i64 (IntKind.wrap .i64 (((k0+1-1:Nat):Int)*(Eu (c3 a b d) 3+1)))) (v':= .int .i64 (((k0+1-1:Nat):Int)*(Eu (c3 a b d) 3+1))) _ κ rfl κ (λw=>by kernel_rfl) (congrArg (Value.int .i64) ((IntWalk.i64_in _ ω).trans ω))),As (Bb (v:= .int .i64 (IntKind.wrap .i64 (Eu p (k0+1)+((k0+1-1:Nat):Int)*(Eu (c3 a b d) 3+1)))) (v':= .int .i64 (Eu p (k0+1)+((k0+1-1:Nat):Int)*(Eu (c3 a b d) 3+1))) _ κ rfl κ (λw=>by kernel_rfl) (congrArg (Value.int .i64) ((IntWalk.i64_in _ ω).trans ω))),As (Bb (v:= .int .i64 (IntKind.wrap .i64 (Eu p (k0+1)+((k0+1-1:Nat):Int)*(Eu (c3 a b d) 3+1)+8))) (v':= .int .i64 (Eu p (k0+1)+((k0+1-1:Nat):Int)*(Eu (c3 a b d) 3+1)+8)) _ κ rfl κ (λw=>by kernel_rfl) (congrArg (Value.int .i64) ((IntWalk.i64_in _ ω).trans ω))),xH (b:=decide ((65536:Int)<Eu p (k0+1)+((k0+1-1:Nat):Int)*(Eu (c3 a b d) 3+1)+8)) (decide_eq_false ω),trivial⟩ (Ab 10 (Dg [(3,.int ((k0+1-1:Nat):Int),.none),(4,Dx (Kj (k0+1) p) (k0+1-1),.none),(6,.osl 5 2 1,(.new 5 (.vec 94 2 1 (λ_=> .lit (Ar (p (k0+1-1))))))),(7,_,.none)] [0,5,6,7,10,11,12] ⟨As (Bb (v:= .int .i64 (IntKind.wrap .i64 (((k0+1:Nat):Int)-1))) (v':= .int .i64 ((k0+1-1:Nat):Int)) _ κ rfl κ (λw=>by kernel_rfl) (congrArg (Value.int .i64) ((IntWalk.i64_in _ ω).trans ω))),Pc (k0+1-1) (k0+1),As (Au 194 1 #[(0,(.tmp 61))] κ underlying194 2 sizeOf94 _ zeroValue94 κ β β β 5 [.bool (decide (p (k0+1-1)<0)),.lit (.string (Dd (p (k0+1-1)).natAbs))] κ (λ_=> .lit (Ar (p (k0+1-1)))) κ),Bu (Hk 1 δ δ),trivial⟩ (Ab 6 (Dm (((k0+1:Nat):Int)-2) (((k0-0:Nat):Int)-1) (Ab 4 (Vw [0,5,6,7,10,11,12,13] k0 (λj=>True) (λj=>⟨[(0,Kj (k0+1) p),(5,.ptr 0 0),(6,.ptr 1 0),(7,.ptr 2 0),(10,.ptr 4 0),(11,.osl 5 2 (j+1)),(12,.ptr 6 0),(13,.int (((k0-j:Nat):Int)-1))],[(0,.box 94 [.bool (decide (a<0)),.lit (.string (Dd (a).natAbs))]),(1,.box 94 [.bool (decide (b<0)),.lit (.string (Dd (b).natAbs))]),(2,.box 94 [.bool (decide (d<0)),.lit (.string (Dd (d).natAbs))]),(3,.vec 94 2 3 (λxi=>WA (c3 a b d xi))),(4,.box 245 [.int 0]),(5,.vec 94 2 (j+1) (λxi=>WA (cN p (k0+1) a b d j xi))),(6,.box 94 [.bool (decide (Mf d j<0)),.lit (.string (Dd (Mf d j).natAbs))])],7,121⟩) trivial (λj hjn hFj J1 hJ1=>?_))))))))))))))))))))))
 refine Ab 7 (He 68 ((0:Int)<=((k0-j:Nat):Int)-1) (λhx1 hx1d=>?_) (λhx1 hx1d=>?_))
 ·
  refine Ab 9 (Bi (.lit (Ar (Mf d (j+1)))) (.set 4 (.box 245 [.int 0])) (Jv 169 #[.tmp 10,.tmp 71,.tmp 72] #[245,94,94] κ (λ_ _=>by kernel_rfl) 4 245 [.int .i64 0] κ [.lit (Ar (Mf d j)),.lit (Ar d)] κ κ (Ar (Mf d (j+1))) (aL (Mf d j) d ((fd j ω).fit ω) (Ju hd) ((fd (j+1) ω).fit ω))) (Ab 7 (Dm (((j+1:Nat):Int)+1) ((j+1+1:Nat):Int) (Bi (.osl 7 2 (j+1+1)) (.new 7 (.vec 94 2 (j+1+1) (λ_=> .lit (Ar 0)))) (Ur 194 (.tmp 76) (.tmp 76) κ underlying194 2 24 (.agg #[.bool false,.string ⟨#[]⟩]) κ κ δ ((j+1+1:Nat):Int) (j+1+1) ω κ κ ω ω ω 7 (.lit (Ar 0)) κ) (Ab 12 (vvx 7 94 2 (j+1+1) (λ_=> .lit (Ar 0)) (λxi=>WA (Nd a b (cN p (k0+1) a b d j) 0 xi)) (λx9 hx9=>Aec _ _ _ _) (Vw [0,5,6,7,10,12,13,14,78,79,80] (j+1) (λt=>True) (λt=>⟨[(0,Kj (k0+1) p),(5,.ptr 0 0),(6,.ptr 1 0),(7,.ptr 2 0),(10,.ptr 4 0),(12,.ptr 6 0),(13,.int (((k0-j:Nat):Int)-1)),(14,.osl 7 2 (j+1+1)),(78,.osl 5 2 (j+1)),(79,.int ((j+1:Nat):Int)),(80,.int (t:Int))],[(0,.box 94 [.bool (decide (a<0)),.lit (.string (Dd (a).natAbs))]),(1,.box 94 [.bool (decide (b<0)),.lit (.string (Dd (b).natAbs))]),(2,.box 94 [.bool (decide (d<0)),.lit (.string (Dd (d).natAbs))]),(3,.vec 94 2 3 (λxi=>WA (c3 a b d xi))),(4,.box 245 [.int 0]),(5,.vec 94 2 (j+1) (λxi=>WA (cN p (k0+1) a b d j xi))),(6,.box 94 [.bool (decide (Mf d (j+1)<0)),.lit (.string (Dd (Mf d (j+1)).natAbs))]),(7,.vec 94 2 (j+1+1) (λxi=>WA (Nd a b (cN p (k0+1) a b d j) t xi)))],8,121⟩) trivial (λt htn hFt J2 hJ2=>?_))))))))
  refine Ab 6 (He 81 ((t:Int)<((j+1:Nat):Int)) (λhx2 hx2d=>?_) (λhx2 hx2d=>?_))
  ·
   exact Ab 8 (Iz t (j+1) (Bi (.lit (Ar (cN p (k0+1) a b d j t))) (.read 5) (Bz 94 (.tmp 83) κ isAgg94 2 sizeOf94 5 t κ 94 (j+1) (λxi=>WA (cN p (k0+1) a b d j xi)) κ ω) (Ab 6 (Dg [(4,Dx (.osl 7 2 (j+1+1)) t,.none),(5,.lit (Ar (Nd a b (cN p (k0+1) a b d j) t t)),(.read 7)),(8,.lit (Ar (cN p (k0+1) a b d j t*a)),(.set 4 (.box 245 [.int 0]))),(9,.lit (Ar (Nd a b (cN p (k0+1) a b d j) t t+cN p (k0+1) a b d j t*a)),(.set 4 (.box 245 [.int 0]))),(10,Dx (.osl 7 2 (j+1+1)) t,.none),(11,.lit Go.undef,(.set 7 (.vec 94 2 (j+1+1) (λxi=>if xi=t then .lit (Ar (Nd a b (cN p (k0+1) a b d j) t t+cN p (k0+1) a b d j t*a)) else (λxi=>WA (Nd a b (cN p (k0+1) a b d j) t xi)) xi))))] [0,5,6,7,10,12,13,14,15,16,78,79,80] ⟨Pc t (j+1+1),As (Bz 94 (.tmp 89) κ isAgg94 2 sizeOf94 7 t κ 94 (j+1+1) (λxi=>WA (Nd a b (cN p (k0+1) a b d j) t xi)) κ ω),As (Jv 169 #[.tmp 10,.tmp 91,.tmp 92] #[245,94,94] κ (λ_ _=>by kernel_rfl) 4 245 [.int .i64 0] κ [.lit (Ar (cN p (k0+1) a b d j t)),.lit (Ar a)] κ κ (Ar (cN p (k0+1) a b d j t*a)) (aL _ _ (fc j _ ω) (Ju ha) ((fm j _ _ ω ha).fit ω))),As (Jv 170 #[.tmp 10,.tmp 90,.tmp 93] #[245,94,94] κ (λ_ _=>by kernel_rfl) 4 245 [.int .i64 0] κ [.lit (Ar (Nd a b (cN p (k0+1) a b d j) t t)),.lit (Ar (cN p (k0+1) a b d j t*a))] κ κ (Ar (Nd a b (cN p (k0+1) a b d j) t t+cN p (k0+1) a b d j t*a)) (vR _ _ ((fi j _ _ ω).fit ω) ((fm j _ _ ω ha).fit ω) (((fi j _ _ ω).add (fm j _ _ ω ha)).fit ω))),Pc t (j+1+1),As (Hz 94 (.tmp 95) (.tmp 94) κ 2 sizeOf94 7 t κ 94 (j+1+1) (λxi=>WA (Nd a b (cN p (k0+1) a b d j) t xi)) κ ω κ κ κ (.lit (Ar (Nd a b (cN p (k0+1) a b d j) t t+cN p (k0+1) a b d j t*a))) κ),trivial⟩ (Ab 4 (Dm ((t:Int)+1) ((t+1:Nat):Int) (Ab 2 (Bi (.lit (Ar (cN p (k0+1) a b d j t*b))) (.set 4 (.box 245 [.int 0])) (Jv 169 #[.tmp 10,.tmp 99,.tmp 100] #[245,94,94] κ (λ_ _=>by kernel_rfl) 4 245 [.int .i64 0] κ [.lit (Ar (cN p (k0+1) a b d j t)),.lit (Ar b)] κ κ (Ar (cN p (k0+1) a b d j t*b)) (aL _ _ (fc j _ ω) (Ju hb) ((fm j _ _ ω hb).fit ω))) (Iz (t+1) (j+1+1) (Bi (.lit Go.undef) (.set 7 (.vec 94 2 (j+1+1) (λxi=>if xi=t+1 then .lit (Ar (cN p (k0+1) a b d j t*b)) else (λxi=>if xi=t then .lit (Ar (Nd a b (cN p (k0+1) a b d j) t t+cN p (k0+1) a b d j t*a)) else (λxi=>WA (Nd a b (cN p (k0+1) a b d j) t xi)) xi) xi))) (Hz 94 (.tmp 102) (.tmp 101) κ 2 sizeOf94 7 (t+1) κ 94 (j+1+1) (λxi=>if xi=t then .lit (Ar (Nd a b (cN p (k0+1) a b d j) t t+cN p (k0+1) a b d j t*a)) else (λxi=>WA (Nd a b (cN p (k0+1) a b d j) t xi)) xi) κ ω κ κ κ (.lit (Ar (cN p (k0+1) a b d j t*b))) κ) (Ab 4 (Dm ((t:Int)+1) ((t+1:Nat):Int) (Ab 2 (vvx 7 94 2 (j+1+1) (λxi=>if xi=t+1 then .lit (Ar (cN p (k0+1) a b d j t*b)) else (λxi=>if xi=t then .lit (Ar (Nd a b (cN p (k0+1) a b d j) t t+cN p (k0+1) a b d j t*a)) else (λxi=>WA (Nd a b (cN p (k0+1) a b d j) t xi)) xi) xi) (λxi=>WA (Nd a b (cN p (k0+1) a b d j) (t+1) xi)) (λx9 hx9=>Aeb _ _ _ _ _) (Xx [0,5,6,7,10,12,13,14,78,79,80] [(0,0),(1,1),(2,2),(3,3),(4,4),(5,5),(6,6),(7,7)] 8 0 hA0 [(94,2,3,(λxi=>WA (c3 a b d xi))),(94,2,j+1,(λxi=>WA (cN p (k0+1) a b d j xi))),(94,2,j+1+1,(λxi=>WA (Nd a b (cN p (k0+1) a b d j) (t+1) xi)))] ⟨(Fe λ_ _=>rfl),(Fe λ_ _=>rfl),(Fe λ_ _=>rfl),trivial⟩ (hJ2 ω trivial))))))))))))))))
  ·
   refine Ab 6 ?_
   have hte:t=j+1:=by omega
   subst hte
   exact Ab 1 (Dg [(2,Dx (.osl 7 2 (j+1+1)) 0,.none),(3,.lit (Ar (Nd a b (cN p (k0+1) a b d j) (j+1) 0)),(.read 7)),(6,Dx (Kj (k0+1) p) (((k0-j:Nat):Int)-1).toNat,.none),(9,.lit (Ar (p ((((k0-j:Nat):Int)-1).toNat)*(Mf d (j+1)))),(.set 4 (.box 245 [.int 0]))),(10,.lit (Ar (Nd a b (cN p (k0+1) a b d j) (j+1) 0+p ((((k0-j:Nat):Int)-1).toNat)*(Mf d (j+1)))),(.set 4 (.box 245 [.int 0]))),(11,Dx (.osl 7 2 (j+1+1)) 0,.none),(12,.lit Go.undef,(.set 7 (.vec 94 2 (j+1+1) (λxi=>if xi=0 then .lit (Ar (Nd a b (cN p (k0+1) a b d j) (j+1) 0+p ((((k0-j:Nat):Int)-1).toNat)*(Mf d (j+1)))) else (λxi=>WA (Nd a b (cN p (k0+1) a b d j) (j+1) xi)) xi))))] [0,5,6,7,10,12,13,14] ⟨Pc 0 (j+1+1),As (Bz 94 (.tmp 106) κ isAgg94 2 sizeOf94 7 0 κ 94 (j+1+1) (λxi=>WA (Nd a b (cN p (k0+1) a b d j) (j+1) xi)) κ ω),Qw (((k0-j:Nat):Int)-1) (((k0-j:Nat):Int)-1).toNat (k0+1),As (Jv 169 #[.tmp 10,.tmp 111,.tmp 112] #[245,94,94] κ (λ_ _=>by kernel_rfl) 4 245 [.int .i64 0] κ [.lit (Ar (p ((((k0-j:Nat):Int)-1).toNat))),.lit (Ar (Mf d (j+1)))] κ κ (Ar (p ((((k0-j:Nat):Int)-1).toNat)*(Mf d (j+1)))) (aL _ _ (Ju (hp _)) ((fd _ ω).fit ω) ((fp _ _ ω).fit ω))),As (Jv 170 #[.tmp 10,.tmp 107,.tmp 113] #[245,94,94] κ (λ_ _=>by kernel_rfl) 4 245 [.int .i64 0] κ [.lit (Ar (Nd a b (cN p (k0+1) a b d j) (j+1) 0)),.lit (Ar (p ((((k0-j:Nat):Int)-1).toNat)*(Mf d (j+1))))] κ κ (Ar (Nd a b (cN p (k0+1) a b d j) (j+1) 0+p ((((k0-j:Nat):Int)-1).toNat)*(Mf d (j+1)))) (vR _ _ ((fi j _ _ ω).fit ω) ((fp _ _ ω).fit ω) (((fi j _ _ ω).add (fp _ _ ω)).fit ω))),Pc 0 (j+1+1),As (Hz 94 (.tmp 115) (.tmp 114) κ 2 sizeOf94 7 0 κ 94 (j+1+1) (λxi=>WA (Nd a b (cN p (k0+1) a b d j) (j+1) xi)) κ ω κ κ κ (.lit (Ar (Nd a b (cN p (k0+1) a b d j) (j+1) 0+p ((((k0-j:Nat):Int)-1).toNat)*(Mf d (j+1))))) κ),trivial⟩ (Ab 9 (Dm (((k0-j:Nat):Int)-1-1) (((k0-(j+1):Nat):Int)-1) (Ab 2 (vvx 7 94 2 (j+1+1) (λxi=>if xi=0 then .lit (Ar (Nd a b (cN p (k0+1) a b d j) (j+1) 0+p ((((k0-j:Nat):Int)-1).toNat)*(Mf d (j+1)))) else (λxi=>WA (Nd a b (cN p (k0+1) a b d j) (j+1) xi)) xi) (λxi=>WA (cN p (k0+1) a b d (j+1) xi)) (λx9 hx9=>Agy _ _ _ _ _ _ _ ω) (Xx [0,5,6,7,10,11,12,13] [(0,0),(1,1),(2,2),(3,3),(4,4),(7,5),(6,6)] 7 0 hA0 [(94,2,3,(λxi=>WA (c3 a b d xi))),(94,2,j+1,(λxi=>WA (cN p (k0+1) a b d j xi))),(94,2,j+1+1,(λxi=>WA (cN p (k0+1) a b d (j+1) xi)))] ⟨(Fe λ_ _=>rfl),(Fe λ_ _=>rfl),(Fe λ_ _=>rfl),trivial⟩ (hJ1 ω trivial)))))))
 ·
  refine Ab 6 ?_
  have hje:j=k0:=by omega
  subst hje
  refine Ai2 5 [11] 94 2 (j+1) (λxi=>WA (cN p (j+1) a b d j xi)) (Fe λ_ _=>rfl) (Ab 3 (vH 7 func171 (λ_ hD3=>?_)))
  exact Ab 23 (Aw (vW (j+1) (cN p (j+1) a b d j) ω (λi _=>fc _ i ω)) (Ab 5 (Ux (Ab 7 (Cu)))))
end Go.Proofs.YtikinphpaiajfaaGreat