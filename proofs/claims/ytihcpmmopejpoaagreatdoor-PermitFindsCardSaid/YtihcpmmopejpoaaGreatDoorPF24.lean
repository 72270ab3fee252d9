/- Part 24 of the proof of PF.card_holds: no condition beyond the row's. -/
import Derived.Test.YtihcpmmopejpoaaGreatDoorPF23
set_option maxRecDepth 100000
set_option maxHeartbeats 40000000
namespace Go.Proofs.YtihcpmmopejpoaaGreatDoor
open Go.Proofs.Tryz
open Go.RowKit
theorem η {x y:Int} (h: -9223372036854775808<=x/\x<=9223372036854775807:=by omega) (e:x=y:=by omega):Value.int .i64 (IntKind.wrap .i64 x)= .int .i64 y:=congrArg (Value.int .i64) ((IntWalk.i64_in x h).trans e)
theorem Js {x:Int} (h:Cj x):Bn x:=Eg h.1 h.2
theorem Pc {x:Int} (h:Cj x) {k:Nat} (hk:k<=6):Bn (x^k):=((Bd.int h.1 h.2).pow k).fit ω
abbrev pF (p:PL):AV:= .lit (.agg #[.bool (decide (p.x<0)),.string (Ci p.x.natAbs),.bool (decide (p.y<0)),.string (Ci p.y.natAbs),.bool (decide (p.z<0)),.string (Ci p.z.natAbs),.bool (decide (p.o<0)),.string (Ci p.o.natAbs)])
theorem Anx {s:Sg} {d:Int} (hs:Zo s) (hd:Cj d):Bd 378 (lZ s d):=((Bd.int hs.o.1 hs.o.2).mul ((Bd.int hd.1 hd.2).pow 5)).mono ω
theorem Afm (s:Sg) (a d:Int) (hs:Zo s) (hx:s.x.length<=6) (hy:s.y.length<=6) (hz:s.z.length<=6) (ha:Cj a) (hd:Cj d) (hg:plG s a d≠0):AF Tryz.prog 101 [Lt s,.int a,.int d] (pF (Ih s a d)):=by
 have bX:∀k,k<=6->Bd 390 (gG s.x a d k):=λk hk=>(pE hs.x ha hd k hk).mono ω
 have bY:∀k,k<=6->Bd 390 (gG s.y a d k):=λk hk=>(pE hs.y ha hd k hk).mono ω
 have bZ:∀k,k<=6->Bd 390 (gG s.z a d k):=λk hk=>(pE hs.z ha hd k hk).mono ω
 have bO:Bd 390 (lZ s d):=(Anx hs hd).mono ω
 have bXX:Bd 390 (plX s a d):=bX _ hx
 have bYY:Bd 390 (plY s a d):=bY _ hy
 have bZZ:Bd 390 (plZ s a d):=bZ _ hz
 have bG1:=bO.gcd bXX
 have bG2:=bG1.gcd bYY
 have bG3:=bG2.gcd bZZ
 have pw:∀{x:Int},Cj x->∀k,k<=6->∀j,j<=k->Bn (x^j):=λh k hk j hj=>Pc h ω
 refine As func101 rfl λB D0 hA0=>?_
 refine Ae 15 (Ao (Er _ hs.o.1 hs.o.2) (Ae 1 (Ao (Ni d 5 hd.1 hd.2 ω (pw hd 5 ω)) (Ao (Mg _ _ (Js hs.o) (Pc hd ω) (bO.fit ω)) (Ae 15 (Ao (Ajh s) (Ae 4 (Sv 3 (Ae 14 (Cu (Aw s.x) .none (Ep 171 (.tmp 22) (.tmp 23) κ underlying171 1 sizeOf70 0 false isAgg70 [Aw s.x,Aw s.y,Aw s.z] 0 κ κ ω δ β δ (Aw s.x) κ) (Ae 13 (AnK (keep:=[1,2,6,7,8,9,10,22,23,27,28,29]) s.x.length (λk=>⟨[(1,.int a),(2,.int d),(6,.ptr 1 0),(7,.ptr 2 0),(8,.ptr 3 0),(9,.ptr 4 0),(10,.int 0),(22,.agg [Aw s.x,Aw s.y,Aw s.z]),(23,.int 0),(27,Aw s.x),(28,.int (s.x.length:Int)),(29,.int (k:Int))],[(0,.box 110 [.int s.f,.int s.t,.int s.o,Aw s.x,Aw s.y,Aw s.z]),(1,.box 176 [.bool false,.lit (.string ⟨#[]⟩),.bool false,.lit (.string ⟨#[]⟩),.bool false,.lit (.string ⟨#[]⟩),.bool false,.lit (.string ⟨#[]⟩)]),(2,.box 211 [.bool (decide (gG s.x a d k<0)),.lit (.string (Ci (gG s.x a d k).natAbs)),.bool false,.lit (.string ⟨#[]⟩),.bool false,.lit (.string ⟨#[]⟩)]),(3,.box 169 [.bool (decide (lZ s d<0)),.lit (.string (Ci (lZ s d).natAbs))]),(4,.box 169 [.bool (decide (lZ s d<0)),.lit (.string (Ci (lZ s d).natAbs))])],5,74⟩) (λk hk J1 hJ1=>?_) ?_))))))))))))
 ·
  exact Ae 3 (Jb 30 (decide ((k:Int)<(s.x.length:Int))) true (decide_eq_true ω) (Ae 11 (Gu k s.x.length (Ae 5 (Cp [(5,_,.none),(8,_,.none),(11,.int ((5-k:Nat):Int),.none),(12,_,.none),(13,_,.none),(14,_,.none),(15,_,.none)] [1,2,6,7,8,9,10,22,23,27,28,29] ⟨Be (Er _ (hs.x k).1 (hs.x k).2),Be (Ni a k ha.1 ha.2 ω (pw ha _ ω)),En (.int .i64 (IntKind.wrap .i64 ((5:Int)-(k:Int)))) η,Be (Ni d (5-k) hd.1 hd.2 ω (pw hd _ ω)),Be (Mg _ _ (Pc ha ω) (Pc hd ω) ((((Bd.int ha.1 ha.2).pow k).mul ((Bd.int hd.1 hd.2).pow (5-k))).fit ω)),Be (Mg _ _ (Js (hs.x k)) ((((Bd.int ha.1 ha.2).pow k).mul ((Bd.int hd.1 hd.2).pow (5-k))).fit ω) ((Sl (hs.x k) ha hd ω).fit ω)),Be (cS (gG s.x a d k) _ ((bX k ω).fit ω) ((Sl (hs.x k) ha hd ω).fit ω) ((bX (k+1) ω).fit ω)),trivial⟩ (Ae 3 (Cv ((k:Int)+1) ((k+1:Nat):Int) (Ae 2 (qA [1,2,6,7,8,9,10,22,23,27,28,29] hJ1)))))))))
 ·
  refine Ae 3 (Jb 30 (decide ((s.x.length:Int)<(s.x.length:Int))) false (decide_eq_false ω) (Ae 9 (Cp [(4,_,.none)] [1,2,6,7,8,9,22,23] ⟨Be (cT _ _ (bO.fit ω) (bXX.fit ω)),trivial⟩ (Ae 3 (Cz (.int .i64 1) (.int .i64 1) (Ae 17 (Cu (Aw s.y) .none (Ep 171 (.tmp 22) (.tmp 23) κ underlying171 1 sizeOf70 1 false isAgg70 [Aw s.x,Aw s.y,Aw s.z] 1 κ κ ω δ β δ (Aw s.y) κ) (Ae 13 (AnK (keep:=[1,2,6,7,8,9,10,22,23,27,28,29]) s.y.length (λk=>⟨[(1,.int a),(2,.int d),(6,.ptr 1 0),(7,.ptr 2 0),(8,.ptr 3 0),(9,.ptr 4 0),(10,.int 1),(22,.agg [Aw s.x,Aw s.y,Aw s.z]),(23,.int 1),(27,Aw s.y),(28,.int (s.y.length:Int)),(29,.int (k:Int))],[(0,.box 110 [.int s.f,.int s.t,.int s.o,Aw s.x,Aw s.y,Aw s.z]),(1,.box 176 [.bool false,.lit (.string ⟨#[]⟩),.bool false,.lit (.string ⟨#[]⟩),.bool false,.lit (.string ⟨#[]⟩),.bool false,.lit (.string ⟨#[]⟩)]),(2,.box 211 [.bool (decide (plX s a d<0)),.lit (.string (Ci (plX s a d).natAbs)),.bool (decide (gG s.y a d k<0)),.lit (.string (Ci (gG s.y a d k).natAbs)),.bool false,.lit (.string ⟨#[]⟩)]),(3,.box 169 [.bool (decide (lZ s d<0)),.lit (.string (Ci (lZ s d).natAbs))]),(4,.box 169 [.bool (decide ((Nat.gcd (lZ s d).natAbs (plX s a d).natAbs:Int)<0)),.lit (.string (Ci (Nat.gcd (lZ s d).natAbs (plX s a d).natAbs:Int).natAbs))])],5,74⟩) (λk hk J2 hJ2=>?_) ?_)))))))))
  ·
   exact Ae 3 (Jb 30 (decide ((k:Int)<(s.y.length:Int))) true (decide_eq_true ω) (Ae 11 (Gu k s.y.length (Ae 5 (Cp [(5,_,.none),(8,_,.none),(11,.int ((5-k:Nat):Int),.none),(12,_,.none),(13,_,.none),(14,_,.none),(15,_,.none)] [1,2,6,7,8,9,10,22,23,27,28,29] ⟨Be (Er _ (hs.y k).1 (hs.y k).2),Be (Ni a k ha.1 ha.2 ω (pw ha _ ω)),En (.int .i64 (IntKind.wrap .i64 ((5:Int)-(k:Int)))) η,Be (Ni d (5-k) hd.1 hd.2 ω (pw hd _ ω)),Be (Mg _ _ (Pc ha ω) (Pc hd ω) ((((Bd.int ha.1 ha.2).pow k).mul ((Bd.int hd.1 hd.2).pow (5-k))).fit ω)),Be (Mg _ _ (Js (hs.y k)) ((((Bd.int ha.1 ha.2).pow k).mul ((Bd.int hd.1 hd.2).pow (5-k))).fit ω) ((Sl (hs.y k) ha hd ω).fit ω)),Be (cS (gG s.y a d k) _ ((bY k ω).fit ω) ((Sl (hs.y k) ha hd ω).fit ω) ((bY (k+1) ω).fit ω)),trivial⟩ (Ae 3 (Cv ((k:Int)+1) ((k+1:Nat):Int) (Ae 2 (qA [1,2,6,7,8,9,10,22,23,27,28,29] hJ2)))))))))
  ·
   refine Ae 3 (Jb 30 (decide ((s.y.length:Int)<(s.y.length:Int))) false (decide_eq_false ω) (Ae 9 (Cp [(4,_,.none)] [1,2,6,7,8,9,22,23] ⟨Be (cT _ _ (bG1.fit ω) (bYY.fit ω)),trivial⟩ (Ae 3 (Cz (.int .i64 2) (.int .i64 2) (Ae 17 (Cu (Aw s.z) .none (Ep 171 (.tmp 22) (.tmp 23) κ underlying171 1 sizeOf70 2 false isAgg70 [Aw s.x,Aw s.y,Aw s.z] 2 κ κ ω δ β δ (Aw s.z) κ) (Ae 13 (AnK (keep:=[1,2,6,7,8,9,10,22,23,27,28,29]) s.z.length (λk=>⟨[(1,.int a),(2,.int d),(6,.ptr 1 0),(7,.ptr 2 0),(8,.ptr 3 0),(9,.ptr 4 0),(10,.int 2),(22,.agg [Aw s.x,Aw s.y,Aw s.z]),(23,.int 2),(27,Aw s.z),(28,.int (s.z.length:Int)),(29,.int (k:Int))],[(0,.box 110 [.int s.f,.int s.t,.int s.o,Aw s.x,Aw s.y,Aw s.z]),(1,.box 176 [.bool false,.lit (.string ⟨#[]⟩),.bool false,.lit (.string ⟨#[]⟩),.bool false,.lit (.string ⟨#[]⟩),.bool false,.lit (.string ⟨#[]⟩)]),(2,.box 211 [.bool (decide (plX s a d<0)),.lit (.string (Ci (plX s a d).natAbs)),.bool (decide (plY s a d<0)),.lit (.string (Ci (plY s a d).natAbs)),.bool (decide (gG s.z a d k<0)),.lit (.string (Ci (gG s.z a d k).natAbs))]),(3,.box 169 [.bool (decide (lZ s d<0)),.lit (.string (Ci (lZ s d).natAbs))]),(4,.box 169 [.bool (decide (((Nat.gcd (Nat.gcd (lZ s d).natAbs (plX s a d).natAbs:Int).natAbs (plY s a d).natAbs:Nat):Int)<0)),.lit (.string (Ci ((Nat.gcd (Nat.gcd (lZ s d).natAbs (plX s a d).natAbs:Int).natAbs (plY s a d).natAbs:Nat):Int).natAbs))])],5,74⟩) (λk hk J3 hJ3=>?_) ?_)))))))))
   ·
    exact Ae 3 (Jb 30 (decide ((k:Int)<(s.z.length:Int))) true (decide_eq_true ω) (Ae 11 (Gu k s.z.length (Ae 5 (Cp [(5,_,.none),(8,_,.none),(11,.int ((5-k:Nat):Int),.none),(12,_,.none),(13,_,.none),(14,_,.none),(15,_,.none)] [1,2,6,7,8,9,10,22,23,27,28,29] ⟨Be (Er _ (hs.z k).1 (hs.z k).2),Be (Ni a k ha.1 ha.2 ω (pw ha _ ω)),En (.int .i64 (IntKind.wrap .i64 ((5:Int)-(k:Int)))) η,Be (Ni d (5-k) hd.1 hd.2 ω (pw hd _ ω)),Be (Mg _ _ (Pc ha ω) (Pc hd ω) ((((Bd.int ha.1 ha.2).pow k).mul ((Bd.int hd.1 hd.2).pow (5-k))).fit ω)),Be (Mg _ _ (Js (hs.z k)) ((((Bd.int ha.1 ha.2).pow k).mul ((Bd.int hd.1 hd.2).pow (5-k))).fit ω) ((Sl (hs.z k) ha hd ω).fit ω)),Be (cS (gG s.z a d k) _ ((bZ k ω).fit ω) ((Sl (hs.z k) ha hd ω).fit ω) ((bZ (k+1) ω).fit ω)),trivial⟩ (Ae 3 (Cv ((k:Int)+1) ((k+1:Nat):Int) (Ae 2 (qA [1,2,6,7,8,9,10,22,23,27,28,29] hJ3)))))))))
   ·
    exact Ae 3 (Jb 30 (decide ((s.z.length:Int)<(s.z.length:Int))) false (decide_eq_false ω) (Ae 9 (Cp [(4,_,.none)] [1,2,6,7,8,9,22,23] ⟨Be (cT _ _ (bG2.fit ω) (bZZ.fit ω)),trivial⟩ (Ae 3 (Cz (.int .i64 3) (.int .i64 3) (Ae 16 (Cp [(3,_,.none),(7,_,.none),(11,_,.none),(14,_,.none)] [6] ⟨Be (cU _ _ (bXX.fit ω) (bG3.fit ω) hg),Be (cU _ _ (bYY.fit ω) (bG3.fit ω) hg),Be (cU _ _ (bZZ.fit ω) (bG3.fit ω) hg),Be (cU _ _ (bO.fit ω) (bG3.fit ω) hg),trivial⟩ (Ae 2 (Ck)))))))))
variable {B:Nat} {D0:Ar} {o:Oper} {ev:Operand->AV} {pre:Nat->Option Bc}
theorem Abm (t t':TypeId) (x y:Operand) (ho:o.op= .binOp .eql t x y t') (vs us:Array Value) (hx:ev x= .lit (.agg vs)) (hy:ev y= .lit (.agg us)) (hg:Tryz.prog.eqGuardType Tryz.prog.depth t=false) (b:Bool) (heq:∀w,(Op.equal t (.agg vs) (.agg us)).run Tryz.prog w= .ok b w):Dv Tryz.prog B D0 o ev pre (.bool b) .none:=by
 refine Bl (.inl rfl) λE a c _ _ hv=>⟨_,?_,.lit _ _⟩
 have h1:=hv x (by simp[ho,Op.operands])
 have h2:=hv y (by simp[ho,Op.operands])
 rw[hx] at h1
 rw[hy] at h2
 simp[execOp,ho,h1.lit_inv,h2.lit_inv,eqGuard,hg,binOp,heq]
theorem dF (t t':TypeId) (x y:Operand) (ho:o.op= .binOp .neq t x y t') (vs us:Array Value) (hx:ev x= .lit (.agg vs)) (hy:ev y= .lit (.agg us)) (hg:Tryz.prog.eqGuardType Tryz.prog.depth t=false) (b:Bool) (heq:∀w,(Op.equal t (.agg vs) (.agg us)).run Tryz.prog w= .ok b w):Dv Tryz.prog B D0 o ev pre (.bool (!b)) .none:=by
 refine Bl (.inl rfl) λE a c _ _ hv=>⟨_,?_,.lit _ _⟩
 have h1:=hv x (by simp[ho,Op.operands])
 have h2:=hv y (by simp[ho,Op.operands])
 rw[hx] at h1
 rw[hy] at h2
 simp[execOp,ho,h1.lit_inv,h2.lit_inv,eqGuard,hg,binOp,heq]
theorem Qa {b b':Bool} (h:Dv Tryz.prog B D0 o ev pre (.bool b) .none) (e:b=b'):Dv Tryz.prog B D0 o ev pre (.bool b') .none:=e▸h
theorem Abt (b b':Bool) (s s':ByteArray) (w:World) (d:Nat):(Op.equalIn (d+2) 169 (.agg #[.bool b,.string s]) (.agg #[.bool b',.string s'])).run Tryz.prog w= .ok ((b==b')&&(s==s')) w:=by
 have h91:=Tryz.runUnderlying169
 have ha4:=isAgg4
 unfold Op.equalIn
 simp[h91,part,ha4,Op.equalIn]
 by_cases h1:b=b'
 subst h1
 cases hs:(s==s')<;>simp
 simp[h1]
theorem eqW (x y:Int) (w:World) (d:Nat):(Op.equalIn (d+2) 169 (Ak x) (Ak y)).run Tryz.prog w= .ok (decide (x=y)) w:=by
 unfold Ak
 rw[Abt]
 congr 1
 rw[beq_toListBytes]
 by_cases h:x=y
 subst h;simp
 rw[decide_eq_false h]
 cases h1:((Ci x.natAbs).toList==(Ci y.natAbs).toList) with
 |false=>simp
 |true=>
  have h3:x.natAbs=y.natAbs:=rH (by simpa using h1)
  have h4:¬(decide (x<0)=decide (y<0)):=λe=>by
   have:x<0↔y<0:=by simpa using e
   apply h
   omega
  simpa using h4
theorem Akd (p q:PL) (w:World):(Op.equal 176 (pF p).val (pF q).val).run Tryz.prog w= .ok (decide (p=q)) w:=by
 have e:∀(x y:Int) (w:World),(Op.equalIn 9999 169 (Ak x) (Ak y)).run Tryz.prog w= .ok (decide (x=y)) w:=λx y w=>eqW x y w 9997
 have h93:=Tryz.runUnderlying176
 have h91:=isAgg169
 have hs:=sizeOf169
 have hin:Tryz.prog.stoodInHeld 176=false:=κ
 unfold Op.equal
 rw[show Op.maxDepth=9999+1 from rfl]
 unfold Op.equalIn
 simp only[AV.val]
 unfold Ak at e
 simp[h93,part,h91,hs,e,hin]
 obtain⟨x,y,z,u⟩:=p
 obtain⟨x',y',z',u'⟩:=q
 simp only[PL.mk.injEq]
 by_cases h1:x=x'<;>by_cases h2:y=y'<;>by_cases h3:z=z'<;>by_cases h4:u=u'<;>simp[h1,h2,h3,h4]
theorem nL {E:Ar} {l:List Int} {v:Value} (h:VR E (Aw l) v):∃A c,v= .slice A l.length c/\Tl E.w v l:=by
 obtain⟨n,hn⟩:∃n,l.length=n:=⟨_,rfl⟩
 unfold Aw at h
 rw[hn] at h ⊢
 cases h with
 |sl0 _ _ _ A c=>exact⟨A,c,rfl,.inl ⟨A,c,rfl,List.eq_nil_of_length_eq_zero hn⟩⟩
 |sl _ _ _ _ b q c us hn0 hD hc hr=>
  refine⟨_,c,rfl,.inr ⟨b,q,c,by rw[hn],λi hi=>?_⟩⟩
  have h1:=hc i 0 ω ω
  have h2:=hr i 0 ω ω
  have h3:us i 0= .int .i64 (l.getD i 0):=h2.lit_inv
  rw[<-h3];exact h1
theorem Ti (s:Sg) (hs:Zo s):AF Tryz.prog 75 [Lt s] (.bool (decide (Ib s))):=by
 intro E us hD hn hv
 have h0:=hv 0 (by simp)
 obtain⟨u,rfl⟩:∃u,us=#[u]:=⟨us.getD 0 undef,by
  apply Array.ext
  simpa using hn
  intro i h1 h2
  have:i=0:=by simp at hn;omega
  subst this
  simp[h1]⟩
 simp at h0
 cases h0 with
 |agg _ _ vs hsz hr=>
  have g:=VR.tops hr
  have l0:vs.getD 0 undef= .int .i64 s.f:=(g 0).lit_inv
  have l1:vs.getD 1 undef= .int .i64 s.t:=(g 1).lit_inv
  have l2:vs.getD 2 undef= .int .i64 s.o:=(g 2).lit_inv
  obtain⟨A3,c3,e3,k3⟩:=nL (l:=s.x) (g 3)
  obtain⟨A4,c4,e4,k4⟩:=nL (l:=s.y) (g 4)
  obtain⟨A5,c5,e5,k5⟩:=nL (l:=s.z) (g 5)
  have hvs:vs=#[.int .i64 s.f,.int .i64 s.t,.int .i64 s.o,.slice A3 s.x.length c3,.slice A4 s.y.length c4,.slice A5 s.z.length c5]:=by
   apply Array.ext
   simpa using hsz
   intro i h1 h2
   have e:vs[i]=vs.getD i undef:=by simp[h1]
   rw[e]
   simp at h2
   match i,h2 with
   |0,_=>exact l0
   |1,_=>exact l1
   |2,_=>exact l2
   |3,_=>exact e3
   |4,_=>exact e4
   |5,_=>exact e5
  subst hvs
  rw[e3] at k3
  rw[e4] at k4
  rw[e5] at k5
  refine(pO s A3 A4 A5 c3 c4 c5 E.w k3 k4 k5 (λk i=>?_)).mono ?_
  match k with
  |0=>exact hs.x i
  |1=>exact hs.y i
  |k+2=>exact hs.z i
  rintro e w' ⟨rfl,hb⟩
  exact⟨_,E.D,rfl,.lit _ _,hb,λ_ h=>h,λ_ h=> .inl h,λb hb'=>Nat.lt_of_lt_of_le (hD b hb') hb.size⟩
end Go.Proofs.YtihcpmmopejpoaaGreatDoor
namespace Go.Proofs.YtihcpmmopejpoaaGreatDoor
open Go.Proofs.Tryz
open Go.RowKit
theorem Ade (l:List Int) {i:Nat} (h:i<l.length):(Dm l).getD i undef= .int .i64 (l.getD i 0):=by
 rw[Γ,Yg l i h,Γ,List.getElem?_eq_getElem h];rfl
theorem nM {w:World} {D:Nat->Prop} {l:List Int} {v:Value} (h:Cn w D 1 v l.length (Dm l)) {E:Ar} (hw:E.w=w) (hD:∀b,D b->E.D b):VR E (Aw l) v:=
 Le h hw hD λi j hi hj=>by
  obtain rfl:j=0:=by omega
  rw[Nat.mul_one,Nat.add_zero,Ade l hi]
  exact .lit _ _
def Sg.none:Sg:=⟨0,0,0,[],[],[]⟩
abbrev Ga (l:List Sg):AV:= .sl 6 l.length λi=>Lt (l.getD i Sg.none)
theorem AkE {w:World} {D:Nat->Prop} {l:List Sg} {v:Value} (h:AfG w D v l) {E:Ar} (hw:E.w=w) (hD:∀b,D b->E.D b):VR E (Ga l) v:=by
 obtain⟨cs,h1,h2⟩:=h
 refine Le h1 hw hD λi j hi hj=>?_
 obtain⟨a,⟨vx,vy,vz,rfl,hx,hy,hz⟩,ha⟩:=h2.at_ hi
 have e:l.getD i Sg.none=l[i]:=by rw[Γ,List.getElem?_eq_getElem hi];rfl
 have g:∀u,[Value.int .i64 l[i].f,.int .i64 l[i].t,.int .i64 l[i].o,vx,vy,vz][j]?=some u->cs.getD (i*6+j) undef=u:=λu hu=>by
  rw[Γ,ha j u hu];rfl
 rw[e]
 match j,hj with
 |0,_=>rw[g _ rfl];exact .lit _ _
 |1,_=>rw[g _ rfl];exact .lit _ _
 |2,_=>rw[g _ rfl];exact .lit _ _
 |3,_=>rw[g _ rfl];exact nM (E:=E.fz) hx hw hD
 |4,_=>rw[g _ rfl];exact nM (E:=E.fz) hy hw hD
 |5,_=>rw[g _ rfl];exact nM (E:=E.fz) hz hw hD
abbrev Bf (v:V3):AV:= .lit (.agg #[.int .i64 v.x,.int .i64 v.y,.int .i64 v.z])
theorem Xi (v:V3):AF Tryz.prog 37 [Bf v] (.bool (Gj 1048576 [v.x,v.y,v.z])):=mU (vs:=[_]) λw=>mA v.x v.y v.z w
theorem Aah (x y z:Int) (w:World):
  Calls Tryz.prog 107 #[.agg #[.int .i64 x,.int .i64 y,.int .i64 z]] w λe w'=>e= .returned (.bool (Gj 16777216 [x,y,z]))/\Below w.heap.size w w':=by
 go_enter func107,ntmps107
 go_wp2_with fail
 refine(fG _ ?_ ?_ [x,y,z] _ _ ?_ ?_).mono ?_
 · omega
 · omega
 · simp
 · exact Bq.new1 _ [.int .i64 x,.int .i64 y,.int .i64 z] 3 _ 0 _ 1 3 rfl (by simp) Ω (by simp)
 ·
  rintro e w1 ⟨rfl,rfl⟩
  go_wp2_with fail
  go_ret
  exact⟨rfl,(Ψ.alloc ζ _).alloc (by simp) _⟩
theorem Ve (v:V3):AF Tryz.prog 107 [Bf v] (.bool (Gj 16777216 [v.x,v.y,v.z])):=mU (vs:=[_]) λw=>Aah v.x v.y v.z w
abbrev Fg (l:List V3):AV:= .sl 3 l.length λi=>Bf (l.getD i V3.zero)
abbrev Dh (l:List ByteArray):AV:= .sl 1 l.length λi=> .lit (.string (l.getD i ByteArray.empty))
abbrev mvA (m:Mv):AV:= .lit (.agg #[.int .i64 m.to.x,.int .i64 m.to.y,.int .i64 m.to.z,.int .i64 m.wait,.int .i64 m.flight,.int .i64 m.rise])
abbrev Ang (l:List Mv):AV:= .sl 6 l.length λi=>mvA (l.getD i Mv.none)
abbrev Amk (a:Ac):AV:= .agg [.lit (.string a.name),.int a.len,Ang a.moves]
abbrev Eu (l:List Ac):AV:= .sl 3 l.length λi=>Amk (l.getD i Ac.none)
abbrev Gm (p:Pr):AV:= .agg [Dh p.names,Fg p.homes,Eu p.acts]
theorem Qv {α:Type} (f:α->List Value) (k:Nat) (hf:∀a,(f a).length=k):∀(l:List α) (i j:Nat) (d:α),i<l.length->j<k->(l.flatMap f).getD (i*k+j) undef=(f (l.getD i d)).getD j undef
 |[],i,j,d,hi,_=>by simp at hi
 |a::l,0,j,d,_,hj=>by
  rw[List.flatMap_cons,Γ,List.getElem?_append_left (by rw[hf];omega)]
  simp
 |a::l,i+1,j,d,hi,hj=>by
  rw[List.flatMap_cons,Γ,List.getElem?_append_right (by rw[hf,Nat.succ_mul];omega),hf]
  have:=Qv f k hf l i j d (by simpa using hi) hj
  rw[Γ] at this
  rw[show (i+1)*k+j-k=i*k+j by rw[Nat.succ_mul];omega,this]
  simp
theorem bE {α:Type} (f:α->List Value) (k:Nat) (hf:∀a,(f a).length=k):∀l:List α,(l.flatMap f).length=l.length*k
 |[]=>by simp
 |a::l=>by rw[List.flatMap_cons,List.length_append,hf,bE f k hf l,List.length_cons,Nat.succ_mul];omega
theorem Aex {E:Ar} {l:List V3} {v:Value} (h:VR E (Fg l) v):Cn E.w E.D 3 v l.length (Ja l):=
 pS h (Ja l) (bQ l) λi j hi hj=>by
  have:=Qv (λv:V3=>[Value.int .i64 v.x,.int .i64 v.y,.int .i64 v.z]) 3 (λ_=>rfl) l i j V3.zero hi hj
  show _=AV.lit ((Ja l).getD (i*3+j) undef)
  unfold Ja
  rw[this]
  match j,hj with
  |0,_=>rfl
  |1,_=>rfl
  |2,_=>rfl
theorem Ah0 {E:Ar} {l:List Mv} {v:Value} (h:VR E (Ang l) v):Cn E.w E.D 6 v l.length (mvs l):=
 pS h (mvs l) (bE Mv.cells 6 (λ_=>rfl) l) λi j hi hj=>by
  have:=Qv Mv.cells 6 (λ_=>rfl) l i j Mv.none hi hj
  unfold mvs
  rw[this]
  match j,hj with
  |0,_=>rfl
  |1,_=>rfl
  |2,_=>rfl
  |3,_=>rfl
  |4,_=>rfl
  |5,_=>rfl
theorem yX {E:Ar} {l:List ByteArray} {v:Value} (h:VR E (Dh l) v):Cn E.w E.D 1 v l.length (strs l):=
 pS h (strs l) (by simp[strs]) λi j hi hj=>by
  obtain rfl:j=0:=by omega
  rw[Nat.mul_one,Nat.add_zero]
  show AV.lit (.string (l.getD i ByteArray.empty))=AV.lit ((strs l).getD i undef)
  simp[strs,hi]
def aU:List Ac->(Nat->Value)->List Value
 |[],_=>[]
 |a::l,g=>[.string a.name,.int .i64 a.len,g 0]++aU l λi=>g (i+1)
theorem Zq:∀(l:List Ac) (g:Nat->Value),(aU l g).length=l.length*3
 |[],_=>rfl
 |a::l,g=>by rw[aU,List.length_append,Zq l];simp;omega
theorem rD:∀(l:List Ac) (g:Nat->Value) (i j:Nat),i<l.length->j<3->(aU l g).getD (i*3+j) undef=[Value.string (l.getD i Ac.none).name,.int .i64 (l.getD i Ac.none).len,g i].getD j undef
 |[],g,i,j,hi,_=>by simp at hi
 |a::l,g,0,j,_,hj=>by
  rw[aU,Γ,List.getElem?_append_left (by simp;omega)]
  simp
 |a::l,g,i+1,j,hi,hj=>by
  rw[aU,Γ,List.getElem?_append_right (by simp;omega)]
  have:=rD l (λi=>g (i+1)) i j (by simpa using hi) hj
  rw[Γ] at this
  rw[show (i+1)*3+j-[Value.string a.name,.int .i64 a.len,g 0].length=i*3+j by simp;omega,this]
  simp
theorem eM {w:World} {D:Nat->Prop}:∀(l:List Ac) (g:Nat->Value),(∀i,i<l.length->Cn w D 6 (g i) (l.getD i Ac.none).moves.length (mvs (l.getD i Ac.none).moves))->Tk w D l (aU l g)
 |[],_,_=>rfl
 |a::l,g,h=>⟨_,_,rfl,⟨g 0,rfl,by simpa using h 0 (by simp)⟩,eM l (λi=>g (i+1)) λi hi=>by simpa using h (i+1) (by simpa using hi)⟩
theorem Acp {E:Ar} {l:List Ac} {v:Value} (h:VR E (Eu l) v):∃cs,Cn E.w E.D 3 v l.length cs/\Tk E.w E.D l cs:=by
 unfold Eu at h
 generalize hn:l.length=n at h ⊢
 cases h with
 |sl0=>
  have:l=[]:=List.eq_nil_of_length_eq_zero hn
  subst this
  exact⟨[],⟨rfl,.inl ⟨_,_,rfl,rfl⟩⟩,rfl⟩
 |sl _ _ _ _ b q c us hn0 hD hcell hr=>
  refine⟨aU l λi=>us i 2,⟨by rw[Zq,hn],.inr ⟨b,q,c,rfl,hD,λk u hu=>?_⟩⟩,eM l _ λi hi=>?_⟩
  obtain⟨hk,he⟩:=List.getElem?_eq_some_iff.1 hu
  rw[Zq,hn] at hk
  obtain⟨d1,d2,d3⟩:=nR hk δ
  have h1:=hcell _ _ d1 d2
  have h2:=hr _ _ d1 d2
  have h3:=rD l (λi=>us i 2) (k/3) (k%3) (by rw[hn];exact d1) d2
  rw[d3,Γ,hu] at h3
  rw[Nat.add_assoc,d3] at h1
  rw[h1]
  congr 1
  have h4:u=[Value.string (l.getD (k/3) Ac.none).name,.int .i64 (l.getD (k/3) Ac.none).len,us (k/3) 2].getD (k%3) undef:=h3
  rw[h4]
  generalize hj:k%3=j at h2 d2
  match j,d2 with
  |0,_=>exact h2.lit_inv
  |1,_=>exact h2.lit_inv
  |2,_=>rfl
  have h2:=hr i 2 ω δ
  exact Ah0 (E:=E.fz) h2
theorem Abr {E:Ar} {p:Pr} {v:Value} (h:VR E (Gm p) v) (hD:∀b,E.D b->b<E.w.heap.size):∃vn vh va,v= .agg #[vn,vh,va]/\Ia E.w E.w.heap.size vn vh va p:=by
 have hrg:∀b,E.D b->rg 0 E.w.heap.size b:=λb hb=>⟨Nat.zero_le _,hD b hb⟩
 cases h with
 |agg _ _ vs hn hr=>
  have g:=VR.tops hr
  have hvs:vs=#[vs.getD 0 undef,vs.getD 1 undef,vs.getD 2 undef]:=by
   apply Array.ext
   simpa using hn
   intro i h1 h2
   have h3:i<3:=by simpa using h2
   match i,h3 with
   |0,_=>simp[Array.getD,h1]
   |1,_=>simp[Array.getD,h1]
   |2,_=>simp[Array.getD,h1]
  obtain⟨cs,k1,k2⟩:=Acp (g 2)
  exact⟨_,_,_,congrArg _ hvs,⟨(yX (g 0)).more hrg,(Aex (g 1)).more hrg,cs,k1.more hrg,k2.more hrg⟩⟩
structure Vq (p:Pr):Prop where
 names:∀s∈p.names,s.size<=maxLen
 anames:∀a∈p.acts,a.name.size<=maxLen
 acts:p.acts.length<=1000000
 moves:∀a∈p.acts,a.moves.length<=1000000
 lens:∀a∈p.acts,Cj a.len
theorem Abj {vs:Array Value} (h:vs.size=1):vs=#[vs.getD 0 undef]:=by
 apply Array.ext
 simpa using h
 intro i h1 h2
 have:i=0:=by simp at h2;exact h2
 subst this
 simp[h1]
theorem Gg (p:Pr) (hp:Vq p):AF Tryz.prog 11 [Gm p] (.bool (De p)):=Tf λE us hD hn hv=>by
 rw[Abj hn]
 have h0:=hv 0 (by simp)
 obtain⟨vn,vh,va,e,h1⟩:=Abr (E:=E.fz) (p:=p) h0 hD
 rw[e]
 refine(Aeu p vn vh va E.w h1 hp.names hp.anames hp.acts hp.moves).mono ?_
 rintro e w' ⟨rfl,hb⟩
 exact⟨_,rfl,hb,λ_ _ _ _=> .lit _ _⟩
def Aj4 (p:Pr) (a k:Int):Prop:=(p.names.length:Int)<=a/\(p.homes.length:Int)<=a/\(p.acts.length:Int)<=k/\(∀i,i<p.names.length->(p.names.getD i ByteArray.empty).size<=60)/\∀i,i<p.acts.length->(p.acts.getD i Ac.none).name.size<=60/\((p.acts.getD i Ac.none).moves.length:Int)<=a
theorem AeY (p:Pr) (a k:Int) (ha:Cj a) (hk:Cj k):AF Tryz.prog 5 [Gm p,.int a,.int k] (.bool (bP (Aj4 p a k))):=by
 refine As func5 rfl λB D0 hA0=>?_
 refine Ae 15 (Gp 14 (a<(p.names.length:Int)) (λhx1 hx1d=>?_) (λhx1 hx1d=>?_))
 ·
  exact Ae 23 (Fd (.bool false) (congrArg AV.bool (Gh (by rintro⟨g1,g2,g3,g4,g5⟩;first|omega|(have:=g4 i ω;omega)|(have:=g5 j ω;omega))).symm))
 ·
  refine Ae 7 (Gp 21 (a<(p.homes.length:Int)) (λhx2 hx2d=>?_) (λhx2 hx2d=>?_))
  ·
   exact Ae 16 (Fd (.bool false) (congrArg AV.bool (Gh (by rintro⟨g1,g2,g3,g4,g5⟩;first|omega|(have:=g4 i ω;omega)|(have:=g5 j ω;omega))).symm))
  ·
   refine Ae 8 (Gp 27 (k<(p.acts.length:Int)) (λhx3 hx3d=>?_) (λhx3 hx3d=>?_))
   ·
    exact Ae 8 (Fd (.bool false) (congrArg AV.bool (Gh (by rintro⟨g1,g2,g3,g4,g5⟩;first|omega|(have:=g4 i ω;omega)|(have:=g5 j ω;omega))).symm))
   ·
    refine Ae 10 (Uz [1,3,7] p.names.length (λi=>∀q,q<i->(p.names.getD q ByteArray.empty).size<=60) (λi=>⟨[(1,.int a),(3,.ptr 0 0),(7,.int (i:Int))],[(0,.box 31 [Dh p.names,Fg p.homes,Eu p.acts])],1,68⟩) (λq hq=>absurd hq (Nat.not_lt_zero q)) (λi hin hFi J1 hJ1=>?_))
    refine Ae 10 (Gp 32 ((i:Int)<(p.names.length:Int)) (λhx4 hx4d=>?_) (λhx4 hx4d=>?_))
    ·
     refine Ae 10 (Gu i p.names.length (Ae 1 (Cz (.int .i64 (ByteArray.size (p.names.getD i ByteArray.empty):Int)) (.int .i64 (ByteArray.size (p.names.getD i ByteArray.empty):Int)) (Ae 3 (Gp 41 ((60:Int)<(ByteArray.size (p.names.getD i ByteArray.empty):Int)) (λhx5 hx5d=>?_) (λhx5 hx5d=>?_))))))
     ·
      exact Ae 12 (Fd (.bool false) (congrArg AV.bool (Gh (by rintro⟨g1,g2,g3,g4,g5⟩;first|omega|(have:=g4 i ω;omega)|(have:=g5 j ω;omega))).symm))
     ·
      exact Ae 6 (Cv ((i:Int)+1) ((i+1:Nat):Int) (Ae 2 (qA [1,3,7] (hJ1 ω (λq hq=>(Nat.lt_or_ge q i).elim (λg=>hFi q g) λg=>by have e:q=i:=(ω);subst e;omega)))))
    ·
     refine Ae 13 (Uz [1,3,8] p.acts.length (λj=>∀q,q<j->(p.acts.getD q Ac.none).name.size<=60/\((p.acts.getD q Ac.none).moves.length:Int)<=a) (λj=>⟨[(1,.int a),(3,.ptr 0 0),(8,.int (j:Int))],[(0,.box 31 [Dh p.names,Fg p.homes,Eu p.acts])],1,68⟩) (λq hq=>absurd hq (Nat.not_lt_zero q)) (λj hjn hFj J2 hJ2=>?_))
     refine Ae 10 (Gp 46 ((j:Int)<(p.acts.length:Int)) (λhx6 hx6d=>?_) (λhx6 hx6d=>?_))
     ·
      refine Ae 10 (Gu j p.acts.length (Ae 2 (Cz (.int .i64 (ByteArray.size ((p.acts.getD j Ac.none).name):Int)) (.int .i64 (ByteArray.size ((p.acts.getD j Ac.none).name):Int)) (Ae 2 (Gp 57 ((60:Int)<(ByteArray.size ((p.acts.getD j Ac.none).name):Int)) (λhx7 hx7d=>?_) (λhx7 hx7d=>?_))))))
      ·
       exact Ae 24 (Fd (.bool false) (congrArg AV.bool (Gh (by rintro⟨g1,g2,g3,g4,g5⟩;first|omega|(have:=g4 i ω;omega)|(have:=g5 j ω;omega))).symm))
      ·
       refine Ae 3 (Gu j p.acts.length (Ae 8 (Gp 67 (a<((p.acts.getD j Ac.none).moves.length:Int)) (λhx8 hx8d=>?_) (λhx8 hx8d=>?_))))
       ·
        exact Ae 12 (Fd (.bool false) (congrArg AV.bool (Gh (by rintro⟨g1,g2,g3,g4,g5⟩;first|omega|(have:=g4 i ω;omega)|(have:=g5 j ω;omega))).symm))
       ·
        exact Ae 6 (Cv ((j:Int)+1) ((j+1:Nat):Int) (Ae 2 (qA [1,3,8] (hJ2 ω (λq hq=>(Nat.lt_or_ge q j).elim (λg=>hFj q g) λg=>by have e:q=j:=(ω);subst e;omega)))))
     ·
      exact Ae 12 (Fd (.bool true) (congrArg AV.bool (cW (⟨ω,ω,ω,λq hq=>hFi q ω,λq hq=>hFj q ω⟩)).symm))
def Dt (l:List Ac):Nat->Int
 |0=>0
 |k+1=>Dt l k+(l.getD k Ac.none).len
theorem fN {p:Pr} {k:Nat} {t:Int} {m:List Int}:∀{i:Nat} {l:List Int},Dz p k t m i=some l->∀j,j<i->Um p k t j=0
 |0,_,_,j,hj=>absurd hj (Nat.not_lt_zero j)
 |i+1,l,h,j,hj=>by
  rw[Dz] at h
  cases h1:Dz p k t m i with
  |none=>rw[h1] at h;cases h
  |some l1=>
   rw[h1] at h
   simp only at h
   split at h
   rename_i hc
   rcases Nat.lt_or_ge j i with hji|hji
   exact fN h1 j hji
   have:j=i:=by omega
   subst this
   exact hc.1
   cases h
theorem iJ {p:Pr}:∀{k:Nat} {t:Int} {m:List Int},Kl p k=some (t,m)->t=Dt p.acts k/\0<=t/\t<=3600000/\∀j,j<k->(0<=Dt p.acts j/\Dt p.acts j<=3600000)/\1<=(p.acts.getD j Ac.none).len/\(p.acts.getD j Ac.none).moves.length=p.names.length/\∀i,i<p.names.length->Um p j (Dt p.acts j) i=0
 |0,t,m,h=>by
  simp only[Kl,Option.some.injEq,Prod.mk.injEq] at h
  obtain⟨rfl,_⟩:=h
  exact⟨rfl,Int.le_refl _,δ,λj hj=>absurd hj (Nat.not_lt_zero j)⟩
 |k+1,t,m,h=>by
  rw[Kl] at h
  cases h1:Kl p k with
  |none=>rw[h1] at h;cases h
  |some tm=>
   obtain⟨t1,m1⟩:=tm
   rw[h1] at h
   simp only at h
   split at h
   rename_i hc
   cases h2:Dz p k t1 m1 p.names.length with
   |none=>rw[h2] at h;cases h
   |some m2=>
    rw[h2] at h
    simp only[Option.some.injEq,Prod.mk.injEq] at h
    obtain⟨rfl,rfl⟩:=h
    obtain⟨e1,e2,e3,e4⟩:=iJ h1
    refine⟨by rw[Dt,e1],ω,ω,λj hj=>?_⟩
    rcases Nat.lt_or_ge j k with hjk|hjk
    exact e4 j hjk
    have:j=k:=by omega
    subst this
    rw[<-e1]
    exact⟨⟨e2,e3⟩,hc.2.1,hc.2.2.2,fN h2⟩
   cases h
structure Acj (p:Pr):Prop where
 n1:1<=p.names.length/\p.names.length<=64
 homes:p.homes.length=p.names.length
 acts:p.acts.length<=60
 ends:∀j,j<=p.acts.length->0<=Dt p.acts j/\Dt p.acts j<=3600000
 len:∀j,j<p.acts.length->1<=(p.acts.getD j Ac.none).len
 mv:∀j,j<p.acts.length->(p.acts.getD j Ac.none).moves.length=p.names.length
 pe:∀j i,j<p.acts.length->i<p.names.length->Um p j (Dt p.acts j) i=0
theorem Od {p:Pr} (h:De p=true):Acj p:=by
 unfold De at h
 simp only[Bool.and_eq_true,decide_eq_true_eq] at h
 obtain⟨⟨h1,h2⟩,h3⟩:=h
 unfold Ts at h1
 simp only[Bool.and_eq_true,decide_eq_true_eq] at h1
 obtain⟨tm,ht⟩:=Option.isSome_iff_exists.1 h3
 obtain⟨t,m⟩:=tm
 obtain⟨e1,e2,e3,e4⟩:=iJ ht
 refine⟨⟨h1.1.1.1,h1.1.1.2⟩,h1.1.2,h2,λj hj=>?_,λj hj=>(e4 j hj).2.1,λj hj=>(e4 j hj).2.2.1,λj i hj hi=>(e4 j hj).2.2.2 i hi⟩
 rcases Nat.lt_or_ge j p.acts.length with hlt|hge
 exact(e4 j hlt).1
 have:j=p.acts.length:=by omega
 subst this
 rw[<-e1];exact⟨e2,e3⟩
theorem getD_in {l:List Ac} (h:∀a∈l,Cj a.len) (i:Nat):Cj (l.getD i Ac.none).len:=by
 rw[Γ]
 cases hi:l[i]? with
 |none=>exact⟨δ,δ⟩
 |some a=>exact h a (List.mem_of_getElem? hi)
theorem Xe (p:Pr) (hp:Vq p) (ho:Acj p) (k:Nat) (hk:k<p.acts.length):AF Tryz.prog 27 [Gm p,.int (k:Int)] (.int (Dt p.acts (k+1))):=by
 have hac:=ho.acts
 refine As func27 rfl λB D0 hA0=>?_
 refine Ae 18 (Uz [1,2,5,6] (k+1) (λi=>True) (λi=>⟨[(1,.int (k:Int)),(2,.ptr 0 0),(5,.int (Dt p.acts i)),(6,.int (i:Int))],[(0,.box 31 [Dh p.names,Fg p.homes,Eu p.acts])],1,21⟩) trivial (λi hin hFi J1 hJ1=>?_))
 have he:=ho.ends i
 refine Ae 8 (Gp 9 ((i:Int)<=(k:Int)) (λhx1 hx1d=>?_) (λhx1 hx1d=>?_))
 ·
  refine Ae 5 ?_
  have he2:=ho.ends i ω
  have hl:=getD_in hp.lens i
  refine Ae 5 (Gu i p.acts.length (Ae 2 (Cz (.int .i64 (IntKind.wrap .i64 (Dt p.acts i+(p.acts.getD i Ac.none).len))) (.int .i64 (Dt p.acts (i+1))) ?_ (congrArg (Value.int .i64) ((IntWalk.i64_in _ (by have he3:=ho.ends (i+1) ω;rw[Dt] at he3;omega)).trans rfl)))))
  exact Ae 6 (Cv ((i:Int)+1) ((i+1:Nat):Int) (Ae 2 (qA [1,2,5,6] (hJ1 ω trivial))))
 ·
  exact Ae 13 (Fd (.int (Dt p.acts i)) (congrArg (λq=>AV.int (Dt p.acts q)) (show i=k+1 by omega)))
theorem kB (p:Pr) (hp:Vq p) (h:De p=true):AF Tryz.prog 20 [Gm p] (.lit (.tuple #[.int .i64 (Dt p.acts p.acts.length),.int .i64 0])):=by
 have ho:=Od h
 have hac:=ho.acts
 refine As func20 rfl λB D0 hA0=>?_
 refine Ae 11 (Ao (Gg p hp) (Ae 3 (Jb 9 (!De p) false (by rw[h];rfl) (Ae 18 (Uz [4,11,12,13] p.acts.length (λi=>True) (λi=>⟨[(4,.int (Dt p.acts i)),(11,Eu p.acts),(12,.int (p.acts.length:Int)),(13,.int (i:Int))],[(0,.box 31 [Dh p.names,Fg p.homes,Eu p.acts])],1,23⟩) trivial (λi hin hFi J1 hJ1=>?_))))))
 refine Ae 6 (Gp 14 ((i:Int)<(p.acts.length:Int)) (λhx1 hx1d=>?_) (λhx1 hx1d=>?_))
 ·
  refine Ae 5 ?_
  have he2:=ho.ends i ω
  have hl:=getD_in hp.lens i
  refine Ae 2 (Gu i p.acts.length (Ae 9 (Cz (.int .i64 (IntKind.wrap .i64 (Dt p.acts i+(p.acts.getD i Ac.none).len))) (.int .i64 (Dt p.acts (i+1))) ?_ (congrArg (Value.int .i64) ((IntWalk.i64_in _ (by have he3:=ho.ends (i+1) ω;rw[Dt] at he3;omega)).trans rfl)))))
  exact Ae 5 (Cv ((i:Int)+1) ((i+1:Nat):Int) (Ae 2 (Ki [4,11,12,13] [(0,0)] 1 0 hA0 [] trivial (hJ1 ω trivial))))
 ·
  exact Ae 14 (Fd (.lit (.tuple #[.int .i64 (Dt p.acts i),.int .i64 0])) (congrArg (λq=>AV.lit (.tuple #[.int .i64 (Dt p.acts q),.int .i64 0])) (show i=p.acts.length by omega)))
theorem Anw {s:Sg} {a d:Int} (ho:s.o≠0) (hd:d≠0):plG s a d≠0:=by
 have h0:(lZ s d).natAbs≠0:=by
  unfold lZ
  rw[Int.natAbs_mul,Int.natAbs_pow]
  have h1:0<s.o.natAbs:=by omega
  have h2:0<d.natAbs^5:=Nat.pow_pos ω
  exact Nat.ne_of_gt (Nat.mul_pos h1 h2)
 have g:∀x y:Int,x.natAbs≠0->(Nat.gcd x.natAbs y.natAbs:Int).natAbs≠0:=λx y hx=>by
  rw[Int.natAbs_natCast]
  exact Nat.ne_of_gt (Nat.gcd_pos_of_pos_left _ ω)
 have h:=g _ (plZ s a d) (g _ (plY s a d) (g _ (plX s a d) h0))
 unfold plG
 omega
theorem dY (s:Sg) (a d:Int) (hs:Zo s) (ho:Ib s) (ha:Cj a) (hd:Cj d) (h0:d≠0):AF Tryz.prog 101 [Lt s,.int a,.int d] (pF (Ih s a d)):=
 Afm s a d hs ho.2.1.2.1 ho.2.2.1.2.1 ho.2.2.2.1.2.1 ha hd (Anw (by have:=ho.1.2.2.2.1;omega) h0)
def aS (s u:Sg):Prop:=s.t=u.f/\Ih s 1 1=Ih u 0 1
instance (s u:Sg):Decidable (aS s u):=by unfold aS;infer_instance
def Wh (l:List Sg):Prop:=(∀i,i<l.length->Ib (l.getD i Sg.none)/\(0<i->aS (l.getD (i-1) Sg.none) (l.getD i Sg.none)))/\1<=l.length/\l.length<=256
instance (l:List Sg):Decidable (Wh l):=by unfold Wh;infer_instance
def Pp (l:List Sg):Prop:=l.length<=1000000/\∀i,Zo (l.getD i Sg.none)
theorem Jm:Cj 0:=⟨δ,δ⟩
theorem oJ:Cj 1:=⟨δ,δ⟩
theorem Afe (s u:Sg) (hs:Zo s) (hu:Zo u) (ho:Ib s) (hp:Ib u):AF Tryz.prog 76 [Lt s,Lt u] (.bool (bP (aS s u))):=by
 refine As func76 rfl λB D0 hA0=>?_
 refine Ae 8 (vsp (s.t=u.f) (λhx1 hx1d=>?_) (λhx1 hx1d=>?_))
 ·
  exact Cp [(4,.bool true,.none),(7,_,.none),(9,_,.none),(10,.bool (decide (Ih s 1 1=Ih u 0 1)),.none)] [4] ⟨vK hx1,Be (dY s 1 1 hs ho oJ oJ δ),Be (dY u 0 1 hu hp Jm oJ δ),Eb (Abm 176 176 (.tmp 12) (.tmp 14) κ _ _ κ κ κ (decide (Ih s 1 1=Ih u 0 1)) (Akd (Ih s 1 1) (Ih u 0 1))),trivial⟩ (Ae 2 (Fd (.bool (decide (Ih s 1 1=Ih u 0 1))) (congrArg AV.bool (if hz:Ih s 1 1=Ih u 0 1 then (decide_eq_true hz).trans (cW ⟨by assumption,hz⟩).symm else (decide_eq_false hz).trans (Gh (λg=>hz g.2)).symm))))
 ·
  exact Cp [(4,.bool false,.none)] [4] ⟨vK hx1,trivial⟩ (Ae 2 (Fd (.bool false) (congrArg AV.bool (Gh (λg=>absurd g.1 θ)).symm)))
theorem Xn (l:List Sg) (hl:Pp l):AF Tryz.prog 45 [Ga l] (.bool (bP (Wh l))):=by
 have hln:=hl.1
 refine As func45 rfl λB D0 hA0=>?_
 refine Ae 14 (Uz [0,5,6,7] l.length (λi=>∀q,q<i->Ib (l.getD q Sg.none)/\(0<q->aS (l.getD (q-1) Sg.none) (l.getD q Sg.none))) (λi=>⟨[(0,Ga l),(5,Ga l),(6,.int ((l).length:Int)),(7,.int (i:Int))],[],0,38⟩) (λq hq=>absurd hq (Nat.not_lt_zero q)) (λi hin hFi J1 hJ1=>?_))
 refine Ae 6 (Gp 8 ((i:Int)<((l).length:Int)) (λhx1 hx1d=>?_) (λhx1 hx1d=>?_))
 ·
  refine Ae 8 (Gu i ((l).length) (Ae 7 (vsp (Ib (l.getD i Sg.none)) (λhx2 hx2d=>?_) (λhx2 hx2d=>?_))))
  ·
   refine vsp ((0:Int)<(i:Int)) (λhx3 hx3d=>?_) (λhx3 hx3d=>?_)
   ·
    refine Cp [(1,.bool true,.none),(5,.bool true,.none),(9,.int ((i-1:Nat):Int),.none),(10,Cw (Ga l) (i-1),.none),(13,_,.none)] [0,5,6,7,28] ⟨Zy hx2 (Be (Ti (l.getD i Sg.none) (hl.2 i))),vK hx3,En (.int .i64 (IntKind.wrap .i64 ((i:Int)-1))) η,Jn (i-1) ((l).length),Be (Afe _ _ (hl.2 (i-1)) (hl.2 i) (hFi (i-1) ω).1 (of_decide_eq_true θ)),trivial⟩ (Ae 1 (cI 28 (bP (aS (l.getD (i-1) Sg.none) (l.getD i Sg.none))) (λhx4=>?_) (λhx4=>?_)))
    ·
     exact Ae 5 (Cv ((i:Int)+1) ((i+1:Nat):Int) (Ae 2 (Ki [0,5,6,7] [] 0 0 hA0 [] trivial (hJ1 ω (λq hq=>(Nat.lt_or_ge q i).elim (λg=>hFi q g) λg=>by have e:q=i:=(ω);subst e;exact⟨of_decide_eq_true hx2,λ_=>Aa7 hx4⟩)))))
    ·
     exact Ae 12 (Fd (.bool false) (congrArg AV.bool (Gh (by rintro⟨g1,g2,g3⟩;first|omega|exact Amp hx4 ((g1 i ω).2 ω)|exact absurd (g1 i ω).1 (of_decide_eq_false hx2))).symm))
   ·
    exact Cp [(1,.bool true,.none),(5,.bool false,.none)] [0,5,6,7,28] ⟨Zy hx2 (Be (Ti (l.getD i Sg.none) (hl.2 i))),vK hx3,trivial⟩ (Ae 6 (Cv ((i:Int)+1) ((i+1:Nat):Int) (Ae 2 (Ki [0,5,6,7] [] 0 0 hA0 [] trivial (hJ1 ω (λq hq=>(Nat.lt_or_ge q i).elim (λg=>hFi q g) λg=>by have e:q=i:=(ω);subst e;exact⟨of_decide_eq_true hx2,λhz=>absurd hz ω⟩))))))
  ·
   exact Cp [(1,.bool false,.none)] [0,5,6,7,28] ⟨Zy hx2 (Be (Ti (l.getD i Sg.none) (hl.2 i))),trivial⟩ (Ae 13 (Fd (.bool false) (congrArg AV.bool (Gh (by rintro⟨g1,g2,g3⟩;first|omega|exact absurd (g1 i ω).1 (of_decide_eq_false hx2))).symm)))
 ·
  refine Ae 12 (Gp 33 ((1:Int)<=((l).length:Int)) (λhx5 hx5d=>?_) (λhx5 hx5d=>?_))
  ·
   exact Ae 8 (Fd (.bool (decide (((l).length:Int)<=256))) (congrArg AV.bool (if hz:l.length<=256 then (decide_eq_true ω).trans (cW ⟨λq hq=>hFi q ω,ω,ω⟩).symm else (decide_eq_false ω).trans (Gh (λg=>hz g.2.2)).symm)))
  ·
   exact Ae 8 (Fd (.bool false) (congrArg AV.bool (Gh (by rintro⟨g1,g2,g3⟩;first|omega)).symm))
def Hh (c:Nat->Int):Nat->Nat
 |0=>0
 |n+1=>if c n=0 then Hh c n else n+1
abbrev Dk (n:Nat) (c:Nat->Int):AV:= .sl 2 n λi=>WA (c i)
abbrev AlL (n:Nat) (c:Nat->Int):AV:= .slc 2 n λi=>WA (c i)
theorem Oa (c:Nat->Int):∀n,Hh c n<=n
 |0=>Nat.le_refl _
 |n+1=>by
  unfold Hh
  split
  exact Nat.le_succ_of_le (Oa c n)
  exact Nat.le_refl _
theorem Sm (c:Nat->Int):∀n,Hh c n=0\/c (Hh c n-1)≠0
 |0=> .inl rfl
 |n+1=>by
  unfold Hh
  split
  exact Sm c n
  rename_i h;exact .inr h
theorem Aen {c:Nat->Int} {n:Nat} (h:n=0\/c (n-1)≠0):Hh c n=n:=by
 cases n with
 |zero=>rfl
 |succ n=>
  unfold Hh
  rcases h with h|h
  cases h
  exact if_neg h
theorem aK {x:Int}:x.sign=0↔x=0:=Int.sign_eq_zero_iff_zero
theorem Aae {c:Nat->Int} {q:Nat} (hq:0<q) (h:(c (q-1)).sign=0):Hh c q=Hh c (q-1):=by
 obtain⟨k,rfl⟩:∃k,q=k+1:=⟨q-1,ω⟩
 rw[Nat.add_sub_cancel] at h ⊢
 rw[Hh,if_pos (aK.1 h)]
theorem iC {c:Nat->Int} {q n:Nat} (h0:Hh c q=Hh c n) (h:q=0\/(c (q-1)).sign≠0):q=Hh c n:=by
 rw[<-h0]
 exact(Aen (h.imp id λh e=>h (aK.2 e))).symm
theorem Aaw (n:Nat) (c:Nat->Int) (hn:n<=1000000) (hc:∀i,i<n->Bn (c i)):AF Tryz.prog 173 [AlL n c] (Dk (Hh c n) c):=by
 refine As func173 rfl λB D0 hA0=>?_
 refine Ae 7 (vlp [0] (λm s=>∃m1,m=m1+1/\(m1<=n/\Hh c m1=Hh c n)/\s=⟨[(0,AlL m1 c)],[],0,22⟩) (n+1) ⟨n,rfl,⟨Nat.le_refl _,rfl⟩,κ⟩ ?_)
 rintro _ _ ⟨m1,rfl,hF,rfl⟩ J1 hJ1
 obtain⟨hF1,hF2⟩:=hF
 refine Ae 7 (Gp 6 ((0:Int)<((m1:Nat):Int)) (λhx1 hx1d=>?_) (λhx1 hx1d=>?_))
 ·
  refine Ae 3 (Cv (((m1:Nat):Int)-1) ((m1-1:Nat):Int) (Gu (m1-1) m1 (Ae 1 (Ao (Nk (c (m1-1)) (hc _ ω)) (Ae 4 (Gp 15 ((c (m1-1)).sign=0) (λhx2 hx2d=>?_) (λhx2 hx2d=>?_)))))))
  ·
   exact Ae 8 (Cv (((m1:Nat):Int)-1) ((m1-1:Nat):Int) (Cu (.slc 2 (m1-1) (λi0=> .lit (Ak (c i0)))) .none (jB 214 (.tmp 16) (.tmp 19) κ underlying214 2 m1 sizeOf169 (λi0=> .lit (Ak (c i0))) κ (m1-1) ((m1-1:Nat):Int) κ ω ω) (Ae 3 (qA [0] (hJ1 _ _ (by omega:m1-1+1<m1+1) ⟨m1-1,rfl,⟨ω,(Aae ω hx2d).symm.trans hF2⟩,rfl⟩)))))
  ·
   exact Ae 6 (vwk 0 (Ae 7 (Fd (.sl 2 m1 (λi0=> .lit (Ak (c i0)))) (congrArg (λz=>Dk z c) (iC hF2 ω)))))
 ·
  exact Ae 17 (vwk 0 (Ae 7 (Fd (.sl 2 m1 (λi0=> .lit (Ak (c i0)))) (congrArg (λz=>Dk z c) (iC hF2 ω)))))
theorem qD (x:Int):AFM Tryz.prog 218 273 [.int .i64 0] [WA x,.int 0] (Ak x):=by
 refine yC func218 rfl λB D0 hA0=>?_
 exact Ae 32 (AnL (.lit (Ak x)) κ)
theorem cO (x y:Int) (hx:Bn x) (hy:Bn y) (hz:Bn (x*y)):AFM Tryz.prog 178 273 [.int .i64 0] [WA x,WA y] (Ak (x*y)):=by
 refine yC func178 rfl λB D0 hA0=>?_
 exact Ae 8 (Cp [(5,_,.none),(8,.lit (Ak (x*y)),(.set 0 (.box 273 [.int 0])))] [6] ⟨Be (cV x y hx hy hz),Eb (Ju 218 #[.tmp 9,.tmp 13,.tmp 14] #[271,169,36] κ (λ_ _=>by kernel_rfl) 0 273 [.int .i64 0] κ [.lit (Ak (x*y)),.int 0] κ κ (Ak (x*y)) (qD (x*y))),trivial⟩ (Ae 2 (AnL (.lit (Ak (x*y))) κ)))
theorem Aaq (x y:Int) (hx:Bn x) (hy:Bn y) (hz:Bn (x+y)):AFM Tryz.prog 179 273 [.int .i64 0] [WA x,WA y] (Ak (x+y)):=by
 refine yC func179 rfl λB D0 hA0=>?_
 exact Ae 8 (Cp [(5,_,.none),(8,.lit (Ak (x+y)),(.set 0 (.box 273 [.int 0])))] [6] ⟨Be (mY x y hx hy hz),Eb (Ju 218 #[.tmp 9,.tmp 13,.tmp 14] #[271,169,36] κ (λ_ _=>by kernel_rfl) 0 273 [.int .i64 0] κ [.lit (Ak (x+y)),.int 0] κ κ (Ak (x+y)) (qD (x+y))),trivial⟩ (Ae 2 (AnL (.lit (Ak (x+y))) κ)))
theorem AoY {c:Nat->Int} {n:Nat} (hl:n=0\/c (n-1)≠0) (h:n≠0):(!decide ((c (n-1)).sign=0))=true:=by
 have h9:¬(c (n-1)).sign=0:=λe=>by
  rcases hl with g|g
  exact h g
  exact g (aK.1 e)
 rw[decide_eq_false h9];rfl
theorem Rg (n:Nat) (c:Nat->Int) (hn:n<=25) (hc:∀i,i<n->Bn (c i)) (hl:n=0\/c (n-1)≠0):AF Tryz.prog 174 [Dk n c] (.bool true):=by
 refine As func174 rfl λB D0 hA0=>?_
 refine Ae 14 (Uz [0,5,6,7] n (λi=>True) (λi=>⟨[(0,Dk n c),(5,Dk n c),(6,.int (n:Int)),(7,.int (i:Int))],[],0,33⟩) trivial (λi hin hFi J1 hJ1=>?_))
 refine Ae 6 (Gp 8 ((i:Int)<(n:Int)) (λhx1 hx1d=>?_) (λhx1 hx1d=>?_))
 ·
  exact Ae 7 (Gu i n (Ae 8 (Ao (Ee (c i) (hc _ ω)) (Ae 8 (Cv ((i:Int)+1) ((i+1:Nat):Int) (Ae 2 (Ki [0,5,6,7] [] 0 0 hA0 [] trivial (hJ1 ω trivial))))))))
 ·
  refine Ae 12 (Jb 18 (decide ((n:Int)<=25)) true (decide_eq_true ω) (Ae 4 (Gp 22 ((n:Int)=0) (λhx2 hx2d=>?_) (λhx2 hx2d=>?_))))
  ·
   exact Ae 14 (Ck)
  ·
   exact Ae 3 (Cv ((n:Int)-1) ((n-1:Nat):Int) (Gu (n-1) n (Ae 1 (Ao (Nk (c (n-1)) (hc _ ω)) (Ae 7 (Fd (.bool (!decide ((c (n-1)).sign=0))) (congrArg AV.bool (AoY hl ω))))))))
def Dp (c:Nat->Int):Nat->Int
 |0=>0
 |n+1=>max (Dp c n) (bitLen (c n).natAbs:Int)
theorem Za {c:Nat->Int} {k:Nat}:∀n,(∀i,i<n->bitLen (c i).natAbs<=k)->0<=Dp c n/\Dp c n<=(k:Int)
 |0,_=>⟨Int.le_refl _,by show (0:Int)<=_;omega⟩
 |n+1,h=>by
  have h1:=Za n λi hi=>h i ω
  have h2:=h n (Nat.lt_succ_self n)
  unfold Dp
  omega
theorem Aav (n:Nat) (c:Nat->Int) (hn:n<=1000000) (hc:∀i,i<n->Bn (c i)):AF Tryz.prog 177 [Dk n c] (.int (Dp c n)):=by
 refine As func177 rfl λB D0 hA0=>?_
 refine Ae 19 (Uz [3,6,7,8] n (λi=>True) (λi=>⟨[(3,.int (Dp c i)),(6,Dk n c),(7,.int (n:Int)),(8,.int (i:Int))],[],0,18⟩) trivial (λi hin hFi J1 hJ1=>?_))
 refine Ae 6 (Gp 9 ((i:Int)<(n:Int)) (λhx1 hx1d=>?_) (λhx1 hx1d=>?_))
 ·
  exact Ae 7 (Gu i n (Ae 8 (Ao (mZ (c i) (hc _ ω)) (Cu (.int (max (Dp c i) (bitLen (c i).natAbs:Int))) .none (Jl (.tmp 12) (.tmp 14) #[3,3] κ (Dp c i) (bitLen (c i).natAbs:Int) κ κ) (Ae 5 (Cv ((i:Int)+1) ((i+1:Nat):Int) (Ae 2 (Ki [3,6,7,8] [] 0 0 hA0 [] trivial (hJ1 ω trivial)))))))))
 ·
  exact Ae 13 (Fd (.int (Dp c i)) (congrArg (λz=>AV.int (Dp c z)) (show _=n by omega)))
abbrev nN (l:List Int) (i:Nat):Int:=l.getD i 0
theorem kE (l:List Int) (hl:0<l.length) (hn:l.length<=25) (hc:∀i,Cj (l.getD i 0)):AF Tryz.prog 129 [Aw l] (.tup [Dk (Hh (nN l) l.length) (nN l),.int 0]):=by
 have hle:=Oa (nN l) l.length
 refine As func129 rfl λB D0 hA0=>?_
 refine Ae 20 (vlp [4,7,8,9] (λm s=>∃i,i<=l.length/\m=l.length-i/\True/\((i=0/\s=⟨[(4,.lit (.slice none 0 0)),(7,Aw l),(8,.int (l.length:Int)),(9,.int ((0:Nat):Int))],[],0,25⟩)\/(0<i/\s=⟨[(4,.osl 9 2 i),(7,Aw l),(8,.int (l.length:Int)),(9,.int (i:Int))],[(9,.vec 169 2 i (λxi=>WA (nN l xi)))],10,25⟩))) l.length ⟨0,Nat.zero_le _,rfl,trivial,.inl ⟨rfl,κ⟩⟩ ?_)
 rintro _ _ ⟨i,hin,rfl,hFi,(⟨hi0,rfl⟩|⟨hi0,rfl⟩)⟩ J1 hJ1
 ·
  subst hi0
  refine Ae 6 (Gp 10 (((0:Nat):Int)<(l.length:Int)) (λhx1 hx1d=>?_) (λhx1 hx1d=>?_))
  ·
   refine Ae 7 (Gu 0 l.length (Ae 7 (Ao (Er ((l).getD 0 0) (hc _).1 (hc _).2) (Kb 0 169 2 1 (λ_=> .lit (Ak ((l).getD 0 0))) ?_))))
   refine Wz 24 169 169 2 1 0 1 (λ_=> .lit (Ak ((l).getD 0 0))) (λxi=>WA (nN l xi)) (λi hi=>by(obtain rfl:i=0:=(ω));rfl) ?_
   exact Ae 5 (Cv (((0:Nat):Int)+1) ((0+1:Nat):Int) (Ae 2 (Ki [4,7,8,9] [(1,9)] 10 0 hA0 [(169,2,1,(λ_=> .lit (Ak ((l).getD 0 0)))),(169,2,1,(λxi=>WA (nN l xi)))] ⟨(Ce λ_ _=>rfl),(Ce λ_ _=>rfl),trivial⟩ (hJ1 _ _ (by omega:l.length-(0+1)<l.length-0) ⟨0+1,ω,rfl,trivial,.inr ⟨Nat.succ_pos _,rfl⟩⟩))))
  ·
   refine Ae 6 ?_
   exfalso;omega
 ·
  refine Ae 6 (Gp 10 ((i:Int)<(l.length:Int)) (λhx2 hx2d=>?_) (λhx2 hx2d=>?_))
  ·
   refine Ae 7 (Gu i l.length (Ae 7 (Ao (Er ((l).getD i 0) (hc _).1 (hc _).2) (Kb 10 169 2 1 (λ_=> .lit (Ak ((l).getD i 0))) ?_))))
   refine Mt 24 169 169 2 i 1 9 10 11 (λxi=>WA (nN l xi)) (λ_=> .lit (Ak ((l).getD i 0))) (λxi=>WA (nN l xi)) (λi hi=>rfl) (λi hi=>by(obtain rfl:i=0:=(ω));rfl) ?_
   exact Ae 5 (Cv ((i:Int)+1) ((i+1:Nat):Int) (Ae 2 (Ki [4,7,8,9] [(11,9)] 10 0 hA0 [(169,2,1,(λ_=> .lit (Ak ((l).getD i 0)))),(169,2,i+1,(λxi=>WA (nN l xi)))] ⟨(Ce λ_ _=>rfl),(Ce λ_ _=>rfl),trivial⟩ (hJ1 _ _ (by omega:l.length-(i+1)<l.length-i) ⟨i+1,ω,rfl,trivial,.inr ⟨Nat.succ_pos _,rfl⟩⟩))))
  ·
   refine Ae 6 ?_
   have hie:i=l.length:=by omega
   subst hie
   exact AlP 9 [4] 169 2 l.length (λxi=>WA (nN l xi)) (Ce λ_ _=>rfl) (Ae 3 (Ao (Aaw l.length (nN l) ω (λi _=>Js (hc i))) (Ae 11 (Jb 23 (decide ((25:Int)<(Hh (nN l) l.length:Int))) false (decide_eq_false ω) (Ae 11 (Ck))))))
def Ns (a b:Int) (c:Nat->Int) (t k:Nat):Int:=if k<t then (if k=0 then 0 else c (k-1)*b)+c k*a else if k=t/\0<t then c (t-1)*b else 0
theorem Ahb (a b:Int) (c:Nat->Int) (k:Nat):WA 0=WA (Ns a b c 0 k):=by
 unfold Ns
 rw[if_neg (Nat.not_lt_zero k),if_neg ω]
theorem Aha (a b:Int) (c:Nat->Int) (t k:Nat):(if k=t+1 then WA (c t*b) else if k=t then WA (Ns a b c t t+c t*a) else WA (Ns a b c t k))=WA (Ns a b c (t+1) k):=by
 by_cases h1:k=t+1
 rw[if_pos h1]
 unfold Ns
 rw[if_neg ω,if_pos ω,Nat.add_sub_cancel]
 rw[if_neg h1]
 by_cases h2:k=t
 subst h2
 rw[if_pos rfl]
 unfold Ns
 rw[if_neg (Nat.lt_irrefl k),if_pos (Nat.lt_succ_self k)]
 by_cases h3:k=0
 subst h3;rw[if_neg ω,if_pos rfl]
 rw[if_pos ω,if_neg h3]
 rw[if_neg h2]
 by_cases h3:k<t
 rw[Ns,Ns,if_pos h3,if_pos (show k<t+1 by omega)]
 rw[Ns,Ns,if_neg h3,if_neg ω,if_neg ω,if_neg ω]
def Mp (d:Int):Nat->Int
 |0=>1
 |k+1=>Mp d k*d
theorem pG (d:Int):∀k,Mp d k=d^k
 |0=>by rw[Int.pow_zero];rfl
 |k+1=>by rw[Mp,pG d k,Int.pow_succ]
def cN (p:Nat->Int) (m:Nat) (a b d:Int):Nat->Nat->Int
 |0,_=>p (m-1)
 |j+1,k=>Ns a b (cN p m a b d j) (j+1) k+(if k=0 then p (m-2-j)*Mp d (j+1) else 0)
theorem AjM (p:Nat->Int) (m:Nat) (a b d:Int) (j k:Nat) {q:Nat} (hq:q=m-2-j):(if k=0 then WA (Ns a b (cN p m a b d j) (j+1) 0+p q*Mp d (j+1)) else WA (Ns a b (cN p m a b d j) (j+1) k))=WA (cN p m a b d (j+1) k):=by
 subst hq
 rw[cN]
 by_cases h:k=0
 subst h;rw[if_pos rfl,if_pos rfl]
 rw[if_neg h,if_neg h,Int.add_zero]
theorem AgZ {a b:Int} {c:Nat->Int} {e:Nat} (ha:Cj a) (hb:Cj b) (hc:∀k,Bd e (c k)) (t k:Nat):Bd (e+64) (Ns a b c t k):=by
 have h1:∀k,Bd (e+63) (c k*a):=λk=>(hc k).mul (Bd.int ha.1 ha.2)
 have h2:∀k,Bd (e+63) (c k*b):=λk=>(hc k).mul (Bd.int hb.1 hb.2)
 unfold Ns
 split
 refine Bd.add (e:=e+63) ?_ (h1 k)
 split
 exact Bd.zero _
 exact h2 _
 split
 exact(h2 _).mono ω
 exact Bd.zero _
theorem rR {p:Nat->Int} {m:Nat} {a b d:Int} (hp:∀i,Cj (p i)) (ha:Cj a) (hb:Cj b) (hd:Cj d):∀j k,Bd (70*j+63) (cN p m a b d j k)
 |0,_=>Bd.int (hp _).1 (hp _).2
 |j+1,k=>by
  have h1:=AgZ ha hb (rR (m:=m) hp ha hb hd j) (j+1) k
  rw[cN]
  refine(Bd.add (e:=70*j+63+64) (h1.mono ζ) ?_).mono ω
  split
  rw[pG];exact((Bd.int (hp _).1 (hp _).2).mul ((Bd.int hd.1 hd.2).pow (j+1))).mono ω
  exact Bd.zero _
def c3 (a b d:Int):Nat->Int
 |0=>a
 |1=>b
 |_=>d
theorem AlE {a b d:Int} (ha:Cj a) (hb:Cj b) (hd:Cj d):∀i,Cj (c3 a b d i)
 |0=>ha
 |1=>hb
 |_+2=>hd
theorem Aim {c:Nat->Int} {n:Nat} (h:∀i,Cj (c i)):0<=Dp c n/\Dp c n<=64:=Za (k:=64) n λi _=>by
 have:=(Bd.int (h i).1 (h i).2).le
 exact Fm.2 ω
theorem qG (k0:Nat) (p:Nat->Int) (a b d:Int) (hm:k0<=5) (hp:∀i,Cj (p i)) (hl:p k0≠0) (ha:Cj a) (hb:Cj b) (hd:Cj d) (hdp:0<d):AF Tryz.prog 130 [Dk (k0+1) p,WA a,WA b,WA d] (.tup [Dk (Hh (cN p (k0+1) a b d k0) (k0+1)) (cN p (k0+1) a b d k0),.int 0]):=by
 have hsp:=Aim (n:=k0+1) hp
 have hs3:=Aim (n:=3) (AlE ha hb hd)
 have hml:0<=((k0+1-1:Nat):Int)*(Dp (c3 a b d) 3+1)/\((k0+1-1:Nat):Int)*(Dp (c3 a b d) 3+1)<=325:=⟨Int.mul_nonneg ω ω,Int.le_trans (Int.mul_le_mul (show ((k0+1-1:Nat):Int)<=5 by omega) (show Dp (c3 a b d) 3+1<=65 by omega) ω ω) δ⟩
 have fc:∀j k,j<=6->Bn (cN p (k0+1) a b d j k):=λj k hj=>(rR hp ha hb hd j k).fit ω
 have fi:∀j t k,j<=6->Bd 600 (Ns a b (cN p (k0+1) a b d j) t k):=λj t k hj=>(AgZ ha hb (rR hp ha hb hd j) t k).mono ω
 have fm:∀j k y,j<=6->Cj y->Bd 600 (cN p (k0+1) a b d j k*y):=λj k y hj hy=>((rR hp ha hb hd j k).mul (Bd.int hy.1 hy.2)).mono ω
 have fd:∀j,j<=6->Bd 500 (Mp d j):=λj hj=>by rw[pG];exact((Bd.int hd.1 hd.2).pow j).mono ω
 have fp:∀i j,j<=6->Bd 600 (p i*Mp d j):=λi j hj=>((Bd.int (hp i).1 (hp i).2).mul (fd j hj)).mono ω
 refine As func130 rfl λB D0 hA0=>?_
 refine Ae 13 (Ao (Rg (k0+1) p ω (λi _=>Js (hp i)) (.inr hl)) (Ae 3 (Ao (Ee _ (Js ha)) (Ae 4 (Ao (Ee _ (Js hb)) (Ae 4 (Ao (Ee _ (Js hd)) (Ae 11 (Ao (Nk d (Js hd)) (Ae 3 (Jb 37 (decide (d.sign<=0)) false (decide_eq_false (by rw[Int.sign_eq_one_of_pos hdp];decide)) (Ae 11 (Jb 40 (decide (((k0+1:Nat):Int)=0)) false (decide_eq_false ω) (Ae 5 (Cp [(1,_,.none),(4,.int ((k0+1-1:Nat):Int),.none),(8,.osl 3 2 3,(.new 3 (.vec 169 2 3 (λxi=>WA (c3 a b d xi))))),(9,.int (Dp (c3 a b d) 3),(.read 3)),(10,.int (Dp (c3 a b d) 3+1),.none),(11,.int (((k0+1-1:Nat):Int)*(Dp (c3 a b d) 3+1)),.none),(12,.int (Dp p (k0+1)+((k0+1-1:Nat):Int)*(Dp (c3 a b d) 3+1)),.none),(13,.int (Dp p (k0+1)+((k0+1-1:Nat):Int)*(Dp (c3 a b d) 3+1)+8),.none),(14,.bool false,.none)] [0,5,6,7,55] ⟨Be (Aav (k0+1) p ω (λi _=>Js (hp i))),En (.int .i64 (IntKind.wrap .i64 (((k0+1:Nat):Int)-1))) η,Eb (Ig 213 3 #[(0,(.tmp 46)),(1,(.tmp 47)),(2,(.tmp 48))] κ underlying213 2 sizeOf169 _ zeroValue169 κ β β β 3 [.bool (decide (a<0)),.lit (.string (Ci (a).natAbs)),.bool (decide (b<0)),.lit (.string (Ci (b).natAbs)),.bool (decide (d<0)),.lit (.string (Ci (d).natAbs))] κ (λxi=>WA (c3 a b d xi)) κ),Eb (Ra 177 #[.tmp 49] #[213] κ (λ_ _=>by kernel_rfl) 3 (.vec 169 2 3 (λxi=>WA (c3 a b d xi))) κ (λ_ _ _ _ h=>by cases h;exact(Ce λ_ _=>rfl)) [.osl 3 2 3] κ [.sl 2 3 (λxi=>WA (c3 a b d xi))] κ (.int .i64 (Dp (c3 a b d) 3)) (Aav 3 (c3 a b d) ω (λi _=>Js (AlE ha hb hd i)))),En (.int .i64 (IntKind.wrap .i64 (Dp (c3 a b d) 3+1))) η,En (.int .i64 (IntKind.wrap .i64 (((k0+1-1:Nat):Int)*(Dp (c3 a b d) 3+1)))) η,En (.int .i64 (IntKind.wrap .i64 (Dp p (k0+1)+((k0+1-1:Nat):Int)*(Dp (c3 a b d) 3+1)))) η,En (.int .i64 (IntKind.wrap .i64 (Dp p (k0+1)+((k0+1-1:Nat):Int)*(Dp (c3 a b d) 3+1)+8))) η,vK (b:=decide ((65536:Int)<Dp p (k0+1)+((k0+1-1:Nat):Int)*(Dp (c3 a b d) 3+1)+8)) (decide_eq_false ω),trivial⟩ (Ae 10 (Cp [(3,.int ((k0+1-1:Nat):Int),.none),(4,Cw (Dk (k0+1) p) (k0+1-1),.none),(6,.osl 5 2 1,(.new 5 (.vec 169 2 1 (λ_=> .lit (Ak (p (k0+1-1))))))),(7,_,.none)] [0,5,6,7,10,11,12] ⟨En (.int .i64 (IntKind.wrap .i64 (((k0+1:Nat):Int)-1))) η,Jn (k0+1-1) (k0+1),Eb (Ig 214 1 #[(0,(.tmp 61))] κ underlying214 2 sizeOf169 _ zeroValue169 κ β β β 5 [.bool (decide (p (k0+1-1)<0)),.lit (.string (Ci (p (k0+1-1)).natAbs))] κ (λ_=> .lit (Ak (p (k0+1-1)))) κ),Be (Er 1 δ δ),trivial⟩ (Ae 6 (Cv (((k0+1:Nat):Int)-2) (((k0-0:Nat):Int)-1) (Ae 4 (Uz [0,5,6,7,10,11,12,13] k0 (λj=>True) (λj=>⟨[(0,Dk (k0+1) p),(5,.ptr 0 0),(6,.ptr 1 0),(7,.ptr 2 0),(10,.ptr 4 0),(11,.osl 5 2 (j+1)),(12,.ptr 6 0),(13,.int (((k0-j:Nat):Int)-1))],[(0,.box 169 [.bool (decide (a<0)),.lit (.string (Ci (a).natAbs))]),(1,.box 169 [.bool (decide (b<0)),.lit (.string (Ci (b).natAbs))]),(2,.box 169 [.bool (decide (d<0)),.lit (.string (Ci (d).natAbs))]),(3,.vec 169 2 3 (λxi=>WA (c3 a b d xi))),(4,.box 273 [.int 0]),(5,.vec 169 2 (j+1) (λxi=>WA (cN p (k0+1) a b d j xi))),(6,.box 169 [.bool (decide (Mp d j<0)),.lit (.string (Ci (Mp d j).natAbs))])],7,121⟩) trivial (λj hjn hFj J1 hJ1=>?_))))))))))))))))))))))
 refine Ae 7 (Gp 68 ((0:Int)<=((k0-j:Nat):Int)-1) (λhx1 hx1d=>?_) (λhx1 hx1d=>?_))
 ·
  refine Ae 9 (Cu (.lit (Ak (Mp d (j+1)))) (.set 4 (.box 273 [.int 0])) (Ju 178 #[.tmp 10,.tmp 71,.tmp 72] #[273,169,169] κ (λ_ _=>by kernel_rfl) 4 273 [.int .i64 0] κ [.lit (Ak (Mp d j)),.lit (Ak d)] κ κ (Ak (Mp d (j+1))) (cO (Mp d j) d ((fd j ω).fit ω) (Js hd) ((fd (j+1) ω).fit ω))) (Ae 7 (Cv (((j+1:Nat):Int)+1) ((j+1+1:Nat):Int) (Cu (.osl 7 2 (j+1+1)) (.new 7 (.vec 169 2 (j+1+1) (λ_=> .lit (Ak 0)))) (Qc 214 (.tmp 76) (.tmp 76) κ underlying214 2 24 (.agg #[.bool false,.string ⟨#[]⟩]) κ κ δ ((j+1+1:Nat):Int) (j+1+1) ω κ κ ω ω ω 7 (.lit (Ak 0)) κ) (Ae 12 (Xc 7 169 2 (j+1+1) (λ_=> .lit (Ak 0)) (λxi=>WA (Ns a b (cN p (k0+1) a b d j) 0 xi)) (λx9 hx9=>Ahb _ _ _ _) (Uz [0,5,6,7,10,12,13,14,78,79,80] (j+1) (λt=>True) (λt=>⟨[(0,Dk (k0+1) p),(5,.ptr 0 0),(6,.ptr 1 0),(7,.ptr 2 0),(10,.ptr 4 0),(12,.ptr 6 0),(13,.int (((k0-j:Nat):Int)-1)),(14,.osl 7 2 (j+1+1)),(78,.osl 5 2 (j+1)),(79,.int ((j+1:Nat):Int)),(80,.int (t:Int))],[(0,.box 169 [.bool (decide (a<0)),.lit (.string (Ci (a).natAbs))]),(1,.box 169 [.bool (decide (b<0)),.lit (.string (Ci (b).natAbs))]),(2,.box 169 [.bool (decide (d<0)),.lit (.string (Ci (d).natAbs))]),(3,.vec 169 2 3 (λxi=>WA (c3 a b d xi))),(4,.box 273 [.int 0]),(5,.vec 169 2 (j+1) (λxi=>WA (cN p (k0+1) a b d j xi))),(6,.box 169 [.bool (decide (Mp d (j+1)<0)),.lit (.string (Ci (Mp d (j+1)).natAbs))]),(7,.vec 169 2 (j+1+1) (λxi=>WA (Ns a b (cN p (k0+1) a b d j) t xi)))],8,121⟩) trivial (λt htn hFt J2 hJ2=>?_))))))))
  refine Ae 6 (Gp 81 ((t:Int)<((j+1:Nat):Int)) (λhx2 hx2d=>?_) (λhx2 hx2d=>?_))
  ·
   exact Ae 8 (Gu t (j+1) (Cu (.lit (Ak (cN p (k0+1) a b d j t))) (.read 5) (Bg 169 (.tmp 83) κ isAgg169 2 sizeOf169 5 t κ 169 (j+1) (λxi=>WA (cN p (k0+1) a b d j xi)) κ ω) (Ae 6 (Cp [(4,Cw (.osl 7 2 (j+1+1)) t,.none),(5,.lit (Ak (Ns a b (cN p (k0+1) a b d j) t t)),(.read 7)),(8,.lit (Ak (cN p (k0+1) a b d j t*a)),(.set 4 (.box 273 [.int 0]))),(9,.lit (Ak (Ns a b (cN p (k0+1) a b d j) t t+cN p (k0+1) a b d j t*a)),(.set 4 (.box 273 [.int 0]))),(10,Cw (.osl 7 2 (j+1+1)) t,.none),(11,.lit Go.undef,(.set 7 (.vec 169 2 (j+1+1) (λxi=>if xi=t then .lit (Ak (Ns a b (cN p (k0+1) a b d j) t t+cN p (k0+1) a b d j t*a)) else (λxi=>WA (Ns a b (cN p (k0+1) a b d j) t xi)) xi))))] [0,5,6,7,10,12,13,14,15,16,78,79,80] ⟨Jn t (j+1+1),Eb (Bg 169 (.tmp 89) κ isAgg169 2 sizeOf169 7 t κ 169 (j+1+1) (λxi=>WA (Ns a b (cN p (k0+1) a b d j) t xi)) κ ω),Eb (Ju 178 #[.tmp 10,.tmp 91,.tmp 92] #[273,169,169] κ (λ_ _=>by kernel_rfl) 4 273 [.int .i64 0] κ [.lit (Ak (cN p (k0+1) a b d j t)),.lit (Ak a)] κ κ (Ak (cN p (k0+1) a b d j t*a)) (cO _ _ (fc j _ ω) (Js ha) ((fm j _ _ ω ha).fit ω))),Eb (Ju 179 #[.tmp 10,.tmp 90,.tmp 93] #[273,169,169] κ (λ_ _=>by kernel_rfl) 4 273 [.int .i64 0] κ [.lit (Ak (Ns a b (cN p (k0+1) a b d j) t t)),.lit (Ak (cN p (k0+1) a b d j t*a))] κ κ (Ak (Ns a b (cN p (k0+1) a b d j) t t+cN p (k0+1) a b d j t*a)) (Aaq _ _ ((fi j _ _ ω).fit ω) ((fm j _ _ ω ha).fit ω) (((fi j _ _ ω).add (fm j _ _ ω ha)).fit ω))),Jn t (j+1+1),Eb (Gs 169 (.tmp 95) (.tmp 94) κ 2 sizeOf169 7 t κ 169 (j+1+1) (λxi=>WA (Ns a b (cN p (k0+1) a b d j) t xi)) κ ω κ κ κ (.lit (Ak (Ns a b (cN p (k0+1) a b d j) t t+cN p (k0+1) a b d j t*a))) κ),trivial⟩ (Ae 4 (Cv ((t:Int)+1) ((t+1:Nat):Int) (Ae 2 (Cu (.lit (Ak (cN p (k0+1) a b d j t*b))) (.set 4 (.box 273 [.int 0])) (Ju 178 #[.tmp 10,.tmp 99,.tmp 100] #[273,169,169] κ (λ_ _=>by kernel_rfl) 4 273 [.int .i64 0] κ [.lit (Ak (cN p (k0+1) a b d j t)),.lit (Ak b)] κ κ (Ak (cN p (k0+1) a b d j t*b)) (cO _ _ (fc j _ ω) (Js hb) ((fm j _ _ ω hb).fit ω))) (Gu (t+1) (j+1+1) (Cu (.lit Go.undef) (.set 7 (.vec 169 2 (j+1+1) (λxi=>if xi=t+1 then .lit (Ak (cN p (k0+1) a b d j t*b)) else (λxi=>if xi=t then .lit (Ak (Ns a b (cN p (k0+1) a b d j) t t+cN p (k0+1) a b d j t*a)) else (λxi=>WA (Ns a b (cN p (k0+1) a b d j) t xi)) xi) xi))) (Gs 169 (.tmp 102) (.tmp 101) κ 2 sizeOf169 7 (t+1) κ 169 (j+1+1) (λxi=>if xi=t then .lit (Ak (Ns a b (cN p (k0+1) a b d j) t t+cN p (k0+1) a b d j t*a)) else (λxi=>WA (Ns a b (cN p (k0+1) a b d j) t xi)) xi) κ ω κ κ κ (.lit (Ak (cN p (k0+1) a b d j t*b))) κ) (Ae 4 (Cv ((t:Int)+1) ((t+1:Nat):Int) (Ae 2 (Xc 7 169 2 (j+1+1) (λxi=>if xi=t+1 then .lit (Ak (cN p (k0+1) a b d j t*b)) else (λxi=>if xi=t then .lit (Ak (Ns a b (cN p (k0+1) a b d j) t t+cN p (k0+1) a b d j t*a)) else (λxi=>WA (Ns a b (cN p (k0+1) a b d j) t xi)) xi) xi) (λxi=>WA (Ns a b (cN p (k0+1) a b d j) (t+1) xi)) (λx9 hx9=>Aha _ _ _ _ _) (Ki [0,5,6,7,10,12,13,14,78,79,80] [(0,0),(1,1),(2,2),(3,3),(4,4),(5,5),(6,6),(7,7)] 8 0 hA0 [(169,2,3,(λxi=>WA (c3 a b d xi))),(169,2,j+1,(λxi=>WA (cN p (k0+1) a b d j xi))),(169,2,j+1+1,(λxi=>WA (Ns a b (cN p (k0+1) a b d j) (t+1) xi)))] ⟨(Ce λ_ _=>rfl),(Ce λ_ _=>rfl),(Ce λ_ _=>rfl),trivial⟩ (hJ2 ω trivial))))))))))))))))
  ·
   refine Ae 6 ?_
   have hte:t=j+1:=by omega
   subst hte
   exact Ae 1 (Cp [(2,Cw (.osl 7 2 (j+1+1)) 0,.none),(3,.lit (Ak (Ns a b (cN p (k0+1) a b d j) (j+1) 0)),(.read 7)),(6,Cw (Dk (k0+1) p) (((k0-j:Nat):Int)-1).toNat,.none),(9,.lit (Ak (p ((((k0-j:Nat):Int)-1).toNat)*(Mp d (j+1)))),(.set 4 (.box 273 [.int 0]))),(10,.lit (Ak (Ns a b (cN p (k0+1) a b d j) (j+1) 0+p ((((k0-j:Nat):Int)-1).toNat)*(Mp d (j+1)))),(.set 4 (.box 273 [.int 0]))),(11,Cw (.osl 7 2 (j+1+1)) 0,.none),(12,.lit Go.undef,(.set 7 (.vec 169 2 (j+1+1) (λxi=>if xi=0 then .lit (Ak (Ns a b (cN p (k0+1) a b d j) (j+1) 0+p ((((k0-j:Nat):Int)-1).toNat)*(Mp d (j+1)))) else (λxi=>WA (Ns a b (cN p (k0+1) a b d j) (j+1) xi)) xi))))] [0,5,6,7,10,12,13,14] ⟨Jn 0 (j+1+1),Eb (Bg 169 (.tmp 106) κ isAgg169 2 sizeOf169 7 0 κ 169 (j+1+1) (λxi=>WA (Ns a b (cN p (k0+1) a b d j) (j+1) xi)) κ ω),Ahe (((k0-j:Nat):Int)-1) (((k0-j:Nat):Int)-1).toNat (k0+1),Eb (Ju 178 #[.tmp 10,.tmp 111,.tmp 112] #[273,169,169] κ (λ_ _=>by kernel_rfl) 4 273 [.int .i64 0] κ [.lit (Ak (p ((((k0-j:Nat):Int)-1).toNat))),.lit (Ak (Mp d (j+1)))] κ κ (Ak (p ((((k0-j:Nat):Int)-1).toNat)*(Mp d (j+1)))) (cO _ _ (Js (hp _)) ((fd _ ω).fit ω) ((fp _ _ ω).fit ω))),Eb (Ju 179 #[.tmp 10,.tmp 107,.tmp 113] #[273,169,169] κ (λ_ _=>by kernel_rfl) 4 273 [.int .i64 0] κ [.lit (Ak (Ns a b (cN p (k0+1) a b d j) (j+1) 0)),.lit (Ak (p ((((k0-j:Nat):Int)-1).toNat)*(Mp d (j+1))))] κ κ (Ak (Ns a b (cN p (k0+1) a b d j) (j+1) 0+p ((((k0-j:Nat):Int)-1).toNat)*(Mp d (j+1)))) (Aaq _ _ ((fi j _ _ ω).fit ω) ((fp _ _ ω).fit ω) (((fi j _ _ ω).add (fp _ _ ω)).fit ω))),Jn 0 (j+1+1),Eb (Gs 169 (.tmp 115) (.tmp 114) κ 2 sizeOf169 7 0 κ 169 (j+1+1) (λxi=>WA (Ns a b (cN p (k0+1) a b d j) (j+1) xi)) κ ω κ κ κ (.lit (Ak (Ns a b (cN p (k0+1) a b d j) (j+1) 0+p ((((k0-j:Nat):Int)-1).toNat)*(Mp d (j+1))))) κ),trivial⟩ (Ae 9 (Cv (((k0-j:Nat):Int)-1-1) (((k0-(j+1):Nat):Int)-1) (Ae 2 (Xc 7 169 2 (j+1+1) (λxi=>if xi=0 then .lit (Ak (Ns a b (cN p (k0+1) a b d j) (j+1) 0+p ((((k0-j:Nat):Int)-1).toNat)*(Mp d (j+1)))) else (λxi=>WA (Ns a b (cN p (k0+1) a b d j) (j+1) xi)) xi) (λxi=>WA (cN p (k0+1) a b d (j+1) xi)) (λx9 hx9=>AjM _ _ _ _ _ _ _ ω) (Ki [0,5,6,7,10,11,12,13] [(0,0),(1,1),(2,2),(3,3),(4,4),(7,5),(6,6)] 7 0 hA0 [(169,2,3,(λxi=>WA (c3 a b d xi))),(169,2,j+1,(λxi=>WA (cN p (k0+1) a b d j xi))),(169,2,j+1+1,(λxi=>WA (cN p (k0+1) a b d (j+1) xi)))] ⟨(Ce λ_ _=>rfl),(Ce λ_ _=>rfl),(Ce λ_ _=>rfl),trivial⟩ (hJ1 ω trivial)))))))
 ·
  refine Ae 6 ?_
  have hje:j=k0:=by omega
  subst hje
  refine AlP 5 [11] 169 2 (j+1) (λxi=>WA (cN p (j+1) a b d j xi)) (Ce λ_ _=>rfl) (Ae 3 (Al4 7 func180 (λ_ hD3=>?_)))
  exact Ae 23 (Ao (Aaw (j+1) (cN p (j+1) a b d j) ω (λi _=>fc _ i ω)) (Ae 5 (vrI (Ae 7 (Ck)))))
theorem Pp.nil:Pp []:=⟨δ,λi=>by simp[Sg.none];exact⟨Jm,Jm,Jm,λ_=>by simpa using Jm,λ_=>by simpa using Jm,λ_=>by simpa using Jm⟩⟩
theorem gX {a b:Int} (ha: -1048576<=a/\a<=1048576) (hb: -1048576<=b/\b<=1048576) {k:Int} (i:Nat):Cj ((Cy a b (Bk k)).getD i 0):=by
 have key:∀x,x∈Cy a b (Bk k)->Cj x:=λx hx=>by
  unfold Cy at hx
  rcases List.mem_cons.1 hx with rfl|hx
  exact⟨ω,ω⟩
  split at hx
  cases hx
  obtain⟨y,hy,rfl⟩:=List.mem_map.1 hx
  have hy2: -100<=y/\y<=100:=by
   unfold Bk at hy
   split at hy
   cases hy
   split at hy
   have:y=1:=by simpa using hy
   omega
   simp at hy;omega
  have:=lM y (b-a) hy2 ω
  exact⟨ω,ω⟩
 rw[Γ]
 cases h:(Cy a b (Bk k))[i]? with
 |none=>exact Jm
 |some x=>exact key x (List.mem_of_getElem? h)
theorem AmF {p:Pr} {a k:Int} (h:Aj4 p a k) (ha:a<=1000) (hk:k<=1000) (hl:∀a∈p.acts,Cj a.len):Vq p:=by
 have hm:(1000000:Nat)<=maxLen:=by decide
 refine⟨λs hs=>?_,λx hx=>?_,by have:=h.2.2.1;omega,λx hx=>?_,hl⟩
 obtain⟨i,hi,rfl⟩:=List.getElem_of_mem hs
 have:=h.2.2.2.1 i hi
 rw[Γ,List.getElem?_eq_getElem hi] at this
 simp at this
 omega
 obtain⟨i,hi,rfl⟩:=List.getElem_of_mem hx
 have:=(h.2.2.2.2 i hi).1
 rw[Γ,List.getElem?_eq_getElem hi] at this
 simp at this
 omega
 obtain⟨i,hi,rfl⟩:=List.getElem_of_mem hx
 have:=(h.2.2.2.2 i hi).2
 rw[Γ,List.getElem?_eq_getElem hi] at this
 simp at this
 omega
theorem Ai8 (n:Int):∃r,Gc [.one .i] r/\AF Tryz.prog 108 [.int n] r:=by
 refine Au func108 rfl ?_
 refine Ab 14 (Ew 3 ?_ ?_)
 exact Ab 9 (Bb)
 refine Ab 8 (Ew 6 ?_ ?_)
 exact Ab 9 (Bb)
 exact Ab 10 (Bb)
noncomputable def AnN (n:Int):Value:=Kp 108 [.one .i] [.int n]
theorem Afu (n:Int):AF Tryz.prog 108 [.int n] (.lit (Hp [.one .i] (AnN n))):=Bi (Ai8 n)
theorem Ai9 (a:V3) (b:V3) (c:V3):∃r,Gc [.one .i,.one .i] r/\AF Tryz.prog 81 [Bf a,Bf b,Bf c] r:=by
 refine Au func81 rfl ?_
 refine Ab 13 (gs (Ao (Ve a) ·) (Ab 2 (Ew 11 ?_ ?_)))
 exact Ab 20 (Bb)
 refine Ab 1 (gs (Ao (Ve b) ·) (Ab 3 (Ew 16 ?_ ?_)))
 exact Ab 15 (Bb)
 refine Ab 1 (gs (Ao (Ve c) ·) (Ab 4 (Ew 20 ?_ ?_)))
 exact Ab 9 (Bb)
 exact Ab 28 (Dy (Afu (Ai (Ai ((Ai (b.x-a.x))*(Ai (c.y-a.y)))-Ai ((Ai (b.y-a.y))*(Ai (c.x-a.x)))))) λv3 hv3=>(gs (Ao hv3 ·) (Ab 5 (Bb))))
noncomputable def AnO (a:V3) (b:V3) (c:V3):Value:=Kp 81 [.one .i,.one .i] [Bf a,Bf b,Bf c]
theorem Afv (a:V3) (b:V3) (c:V3):AF Tryz.prog 81 [Bf a,Bf b,Bf c] (.lit (Hp [.one .i,.one .i] (AnO a b c))):=Bi (Ai9 a b c)
theorem AgO (a:V3) (b:V3) (c:V3):∃r,Gc [.one .i] r/\AF Tryz.prog 55 [Bf a,Bf b,Bf c] r:=by
 refine Au func55 rfl ?_
 exact Ab 13 (Dy (Afv a b c) λv1 hv1=>(gs (Ao hv1 ·) (Ab 14 (Bb))))
noncomputable def AmM (a:V3) (b:V3) (c:V3):Value:=Kp 55 [.one .i] [Bf a,Bf b,Bf c]
theorem Nd (a:V3) (b:V3) (c:V3):AF Tryz.prog 55 [Bf a,Bf b,Bf c] (.lit (Hp [.one .i] (AmM a b c))):=Bi (AgO a b c)
theorem AmJ (a:V3) (b:V3) (c:V3):∃r,Gc [.one .b] r/\AF Tryz.prog 51 [Bf a,Bf b,Bf c] r:=by
 refine Au func51 rfl ?_
 refine Ab 13 (Dy (Nd a b c) λv1 hv1=>(gs (Ao hv1 ·) (Ab 2 (Ew 12 ?_ ?_))))
 refine Ab 6 (gs (Cu (.int (min a.x b.x)) .none (dE (.tmp 16) (.tmp 18) #[3,3] κ a.x b.x κ κ) ·) (Ab 3 (Ew 22 ?_ ?_)))
 refine Ab 6 (gs (Cu (.int (max a.x b.x)) .none (Jl (.tmp 26) (.tmp 28) #[3,3] κ a.x b.x κ κ) ·) (Ab 3 (Ew 32 ?_ ?_)))
 refine Ab 6 (gs (Cu (.int (min a.y b.y)) .none (dE (.tmp 36) (.tmp 38) #[3,3] κ a.y b.y κ κ) ·) (Ab 3 (Ew 42 ?_ ?_)))
 exact Ab 6 (gs (Cu (.int (max a.y b.y)) .none (Jl (.tmp 46) (.tmp 48) #[3,3] κ a.y b.y κ κ) ·) (Ab 6 (Bb)))
 exact Ab 13 (Bb)
 exact Ab 23 (Bb)
 exact Ab 33 (Bb)
 exact Ab 43 (Bb)
noncomputable def ApE (a:V3) (b:V3) (c:V3):Value:=Kp 51 [.one .b] [Bf a,Bf b,Bf c]
theorem Pk (a:V3) (b:V3) (c:V3):AF Tryz.prog 51 [Bf a,Bf b,Bf c] (.lit (Hp [.one .b] (ApE a b c))):=Bi (AmJ a b c)
theorem AgI (a:V3) (b:V3) (c:V3) (d:V3):∃r,Gc [.one .b] r/\AF Tryz.prog 36 [Bf a,Bf b,Bf c,Bf d] r:=by
 refine Au func36 rfl ?_
 refine Ab 10 (Dy (Pk a b c) λv1 hv1=>?_)
 refine Ek (gB v1) (λhx2=>?_) (λhx2=>?_)
 exact gs (Cp [(3,.bool true,.none)] [8] ⟨Zy hx2 (Be hv1),trivial⟩ ·) (Ab 2 (Bb))
 refine Dy (Pk a b d) λv3 hv3=>?_
 refine Ek (gB v3) (λhx4=>?_) (λhx4=>?_)
 exact gs (Cp [(3,.bool false,.none),(8,.bool true,.none)] [8] ⟨Zy hx2 (Be hv1),Zy hx4 (Be hv3),trivial⟩ ·) (Ab 2 (Bb))
 refine Dy (Pk c d a) λv5 hv5=>?_
 refine Ek (gB v5) (λhx6=>?_) (λhx6=>?_)
 exact gs (Cp [(3,.bool false,.none),(8,.bool false,.none),(14,.bool true,.none)] [8] ⟨Zy hx2 (Be hv1),Zy hx4 (Be hv3),Zy hx6 (Be hv5),trivial⟩ ·) (Ab 2 (Bb))
 refine Dy (Pk c d b) λv7 hv7=>?_
 refine Ek (gB v7) (λhx8=>?_) (λhx8=>?_)
 exact gs (Cp [(3,.bool false,.none),(8,.bool false,.none),(14,.bool false,.none),(20,.bool true,.none)] [8] ⟨Zy hx2 (Be hv1),Zy hx4 (Be hv3),Zy hx6 (Be hv5),Zy hx8 (Be hv7),trivial⟩ ·) (Ab 2 (Bb))
 refine Dy (Nd a b c) λv9 hv9=>(Dy (Nd a b d) λv10 hv10=>(vsp (Ai ((gI v9)*(gI v10))<0) (λhx11 hx11d=>?_) (λhx11 hx11d=>?_)))
 exact Dy (Nd c d a) λv12 hv12=>(Dy (Nd c d b) λv13 hv13=>(gs (Cp [(3,.bool false,.none),(8,.bool false,.none),(14,.bool false,.none),(20,.bool false,.none),(26,_,.none),(30,_,.none),(32,.bool true,.none),(37,_,.none),(41,_,.none)] [8] ⟨Zy hx2 (Be hv1),Zy hx4 (Be hv3),Zy hx6 (Be hv5),Zy hx8 (Be hv7),Be hv9,Be hv10,vK hx11,Be hv12,Be hv13,trivial⟩ ·) (Ab 2 (Bb))))
 exact gs (Cp [(3,.bool false,.none),(8,.bool false,.none),(14,.bool false,.none),(20,.bool false,.none),(26,_,.none),(30,_,.none),(32,.bool false,.none)] [8] ⟨Zy hx2 (Be hv1),Zy hx4 (Be hv3),Zy hx6 (Be hv5),Zy hx8 (Be hv7),Be hv9,Be hv10,vK hx11,trivial⟩ ·) (Ab 2 (Bb))
noncomputable def AmH (a:V3) (b:V3) (c:V3) (d:V3):Value:=Kp 36 [.one .b] [Bf a,Bf b,Bf c,Bf d]
theorem dU (a:V3) (b:V3) (c:V3) (d:V3):AF Tryz.prog 36 [Bf a,Bf b,Bf c,Bf d] (.lit (Hp [.one .b] (AmH a b c d))):=Bi (AgI a b c d)
theorem AgM (n:Int):∃r,Gc [.one .i] r/\AF Tryz.prog 57 [.int n] r:=by
 refine Au func57 rfl ?_
 refine Ab 14 (Ew 3 ?_ ?_)
 exact Ab 9 (Bb)
 refine Ab 8 (Ew 6 ?_ ?_)
 exact Ab 9 (Bb)
 exact Ab 10 (Bb)
noncomputable def AmK (n:Int):Value:=Kp 57 [.one .i] [.int n]
theorem qK (n:Int):AF Tryz.prog 57 [.int n] (.lit (Hp [.one .i] (AmK n))):=Bi (AgM n)
structure Vs where
 n:Nat
 f:Nat->V3
abbrev Cd (l:Vs):AV:= .sl 3 l.n λi=>Bf (l.f i)
theorem Ac1 (l:Vs) (h0:l.n<=64):∃r,Gc [.one .b] r/\AF Tryz.prog 49 [Cd l,.fn 50 []] r:=by
 refine Au func49 rfl ?_
 refine Ab 9 (cE func80 (Ab 14 (AnF [0,1,7,8] l.n (λq=>True) (λq=>⟨[(0,Cd l),(1,.fn 50 []),(7,.int (l.n:Int)),(8,.int (q:Int))],[],0,19⟩) trivial (λq hqn hFq hJ1=>?_))))
 refine Ab 6 (Hn 9 ((q:Int)<(l.n:Int)) (λhx2 hx2d=>?_) (λhx2 hx2d=>?_))
 refine Ab 16 (gs (Gu q l.n ·) (Ab 1 (uS func50 (Ab 9 (gs (Ao (Xi (l.f q)) ·) (Ab 5 (Iy (Ab 2 (Ew 16 ?_ ?_)))))))))
 exact Ab 13 (Iy (Ab 5 (Bb)))
 exact Ab 5 (gs (Cv ((q:Int)+1) ((q+1:Nat):Int) ·) (Ab 2 (Fy [0,1,7,8] [] 0 [] trivial (hJ1 ω trivial))))
 exact Ab 12 (Iy (Ab 5 (Bb)))
noncomputable def AjY (l:Vs):Value:=Kp 49 [.one .b] [Cd l,.fn 50 []]
theorem AbM (l:Vs) (h0:l.n<=64):AF Tryz.prog 49 [Cd l,.fn 50 []] (.lit (Hp [.one .b] (AjY l))):=Bi (Ac1 l h0)
theorem mC (l:Vs):∃r,(Gc [.one .b] r/\(r= .bool true->3<=l.n))/\AF Tryz.prog 33 [Cd l] r:=by
 refine Au func33 rfl ?_
 refine Ab 18 (Hn 15 ((l.n:Int)<3) (λhx1 hx1d=>?_) (λhx1 hx1d=>?_))
 exact Ab 17 (Fa (.bool false) (λh=>by cases h))
 refine Ab 4 (Hn 19 ((64:Int)<(l.n:Int)) (λhx2 hx2d=>?_) (λhx2 hx2d=>?_))
 exact Ab 13 (Fa (.bool false) (λh=>by cases h))
 refine Ab 1 (Dy (AbM l ω) λv3 hv3=>(gs (Ao hv3 ·) (Ab 3 (Ew 22 ?_ ?_))))
 exact Ab 8 (Fa (.bool false) (λh=>by cases h))
 refine Ab 11 (AnF [0,3,23,24] l.n (λi=>True) (λi=>⟨[(0,Cd l),(3,.int (l.n:Int)),(23,.int (l.n:Int)),(24,.int (i:Int))],[],0,117⟩) trivial (λi hin hFi hJ1=>?_))
 refine Ab 6 (Hn 25 ((i:Int)<(l.n:Int)) (λhx4 hx4d=>?_) (λhx4 hx4d=>?_))
 refine Ab 12 ?_
 have hm4:=Nat.mod_lt (i+1) (by omega:0<l.n)
 refine gs (Cp [(2,Cw (Cd l) i,.none),(6,.int ((i+1:Nat):Int),.none),(8,.int (((i+1)%l.n:Nat):Int),.none),(9,Cw (Cd l) ((i+1)%l.n),.none)] [0,3,4,5,6,23,24] ⟨Jn i l.n,En (.int .i64 (IntKind.wrap .i64 ((i:Int)+1))) η,uD ((i+1:Nat):Int) (l.n:Int) (((i+1)%l.n:Nat):Int) ω rfl,Jn ((i+1)%l.n) l.n,trivial⟩ ·) (Ab 10 (tsh 8 43 false [0,3,4,5,6,23,24,49] ?_ (λhS6=>?_)))
 refine Ab 6 (gs (Cv ((i:Int)+1) ((i+1:Nat):Int) ·) (Ab 4 (Vl [0,3,4,5,6,7,23,24] (λm s=>∃k,m=l.n-k/\(i<k/\k<=l.n)/\s=⟨[(0,Cd l),(3,.int (l.n:Int)),(4,.int (i:Int)),(5,.ptr 0 0),(6,.ptr 1 0),(7,.int (k:Int)),(23,.int (l.n:Int)),(24,.int (i:Int))],[(0,.box 79 [.int ((l.f i).x),.int ((l.f i).y),.int ((l.f i).z)]),(1,.box 79 [.int ((l.f ((i+1)%l.n)).x),.int ((l.f ((i+1)%l.n)).y),.int ((l.f ((i+1)%l.n)).z)])],2,117⟩) (l.n-(i+1)) ⟨i+1,rfl,⟨ω,ω⟩,κ⟩ ?_)))
 rintro _ _ ⟨k,rfl,hF,rfl⟩ hJ2
 refine Ab 8 (Hn 54 ((k:Int)<(l.n:Int)) (λhx7 hx7d=>?_) (λhx7 hx7d=>?_))
 refine Ab 6 ?_
 have hm7:=Nat.mod_lt (k+1) (by omega:0<l.n)
 refine gs (Cp [(2,Cw (Cd l) k,.none),(6,.int ((k+1:Nat):Int),.none),(8,.int (((k+1)%l.n:Nat):Int),.none),(9,Cw (Cd l) ((k+1)%l.n),.none)] [0,3,4,5,6,7,8,9,23,24] ⟨Jn k l.n,En (.int .i64 (IntKind.wrap .i64 ((k:Int)+1))) η,uD ((k+1:Nat):Int) (l.n:Int) (((k+1)%l.n:Nat):Int) ω rfl,Jn ((k+1)%l.n) l.n,trivial⟩ ·) (Ab 12 (gs (Cv ((i:Int)+1) ((i+1:Nat):Int) ·) (Ab 2 (Hn 79 ((k:Int)=((i+1:Nat):Int)) (λhx9 hx9d=>?_) (λhx9 hx9d=>?_)))))
 refine Ab 6 (Hn 74 ((2:Int)<(l.n:Int)) (λhx10 hx10d=>?_) (λhx10 hx10d=>?_))
 refine Ab 5 (Dy (Pk (l.f i) (l.f ((i+1)%l.n)) (l.f ((k+1)%l.n))) λv11 hv11=>(gs (Ao hv11 ·) (Ab 2 (Ew 88 ?_ ?_))))
 refine Ab 3 (Dy (Pk (l.f k) (l.f ((k+1)%l.n)) (l.f i)) λv13 hv13=>(gs (Ao hv13 ·) (Ab 12 (Ew 115 ?_ ?_))))
 exact Ab 16 (Fa (.bool false) (λh=>by cases h))
 exact Ab 6 (gs (Cv ((k:Int)+1) ((k+1:Nat):Int) ·) (Ab 2 (Fy [0,3,4,5,6,7,23,24] [(0,0),(1,1)] 2 [] trivial (hJ2 _ _ (by omega:l.n-(k+1)<l.n-k) ⟨k+1,rfl,⟨ω,ω⟩,rfl⟩))))
 exact Ab 32 (Fa (.bool false) (λh=>by cases h))
 refine Ab 4 (gs (Cv ((k:Int)+1) ((k+1:Nat):Int) ·) (Ab 1 ?_))
 have hm13:=Nat.mod_lt (k+1) (by omega:0<l.n)
 refine gs (Apj ((k+1:Nat):Int) (l.n:Int) (((k+1)%l.n:Nat):Int) ω rfl ·) (Ab 5 (Hn 95 ((((k+1)%l.n:Nat):Int)=(i:Int)) (λhx15 hx15d=>?_) (λhx15 hx15d=>?_)))
 refine Ab 5 (Dy (Pk (l.f i) (l.f ((i+1)%l.n)) (l.f k)) λv16 hv16=>(gs (Ao hv16 ·) (Ab 2 (Ew 107 ?_ ?_))))
 refine Ab 3 (Dy (Pk (l.f k) (l.f ((k+1)%l.n)) (l.f ((i+1)%l.n))) λv18 hv18=>(gs (Ao hv18 ·) (Ab 12 (Ew 115 ?_ ?_))))
 exact Ab 16 (Fa (.bool false) (λh=>by cases h))
 exact Ab 6 (gs (Cv ((k:Int)+1) ((k+1:Nat):Int) ·) (Ab 2 (Fy [0,3,4,5,6,7,23,24] [(0,0),(1,1)] 2 [] trivial (hJ2 _ _ (by omega:l.n-(k+1)<l.n-k) ⟨k+1,rfl,⟨ω,ω⟩,rfl⟩))))
 exact Ab 32 (Fa (.bool false) (λh=>by cases h))
 refine Ab 6 (Dy (dU (l.f i) (l.f ((i+1)%l.n)) (l.f k) (l.f ((k+1)%l.n))) λv19 hv19=>(gs (Ao hv19 ·) (Ab 11 (Ew 115 ?_ ?_))))
 exact Ab 16 (Fa (.bool false) (λh=>by cases h))
 exact Ab 6 (gs (Cv ((k:Int)+1) ((k+1:Nat):Int) ·) (Ab 2 (Fy [0,3,4,5,6,7,23,24] [(0,0),(1,1)] 2 [] trivial (hJ2 _ _ (by omega:l.n-(k+1)<l.n-k) ⟨k+1,rfl,⟨ω,ω⟩,rfl⟩))))
 refine Ab 10 (gs (Cv ((k:Int)+1) ((k+1:Nat):Int) ·) (Ab 1 ?_))
 have hm19:=Nat.mod_lt (k+1) (by omega:0<l.n)
 refine gs (Apj ((k+1:Nat):Int) (l.n:Int) (((k+1)%l.n:Nat):Int) ω rfl ·) (Ab 5 (Hn 95 ((((k+1)%l.n:Nat):Int)=(i:Int)) (λhx21 hx21d=>?_) (λhx21 hx21d=>?_)))
 refine Ab 5 (Dy (Pk (l.f i) (l.f ((i+1)%l.n)) (l.f k)) λv22 hv22=>(gs (Ao hv22 ·) (Ab 2 (Ew 107 ?_ ?_))))
 refine Ab 3 (Dy (Pk (l.f k) (l.f ((k+1)%l.n)) (l.f ((i+1)%l.n))) λv24 hv24=>(gs (Ao hv24 ·) (Ab 12 (Ew 115 ?_ ?_))))
 exact Ab 16 (Fa (.bool false) (λh=>by cases h))
 exact Ab 6 (gs (Cv ((k:Int)+1) ((k+1:Nat):Int) ·) (Ab 2 (Fy [0,3,4,5,6,7,23,24] [(0,0),(1,1)] 2 [] trivial (hJ2 _ _ (by omega:l.n-(k+1)<l.n-k) ⟨k+1,rfl,⟨ω,ω⟩,rfl⟩))))
 exact Ab 32 (Fa (.bool false) (λh=>by cases h))
 refine Ab 6 (Dy (dU (l.f i) (l.f ((i+1)%l.n)) (l.f k) (l.f ((k+1)%l.n))) λv25 hv25=>(gs (Ao hv25 ·) (Ab 11 (Ew 115 ?_ ?_))))
 exact Ab 16 (Fa (.bool false) (λh=>by cases h))
 exact Ab 6 (gs (Cv ((k:Int)+1) ((k+1:Nat):Int) ·) (Ab 2 (Fy [0,3,4,5,6,7,23,24] [(0,0),(1,1)] 2 [] trivial (hJ2 _ _ (by omega:l.n-(k+1)<l.n-k) ⟨k+1,rfl,⟨ω,ω⟩,rfl⟩))))
 exact Ab 8 (gs (Cv ((i:Int)+1) ((i+1:Nat):Int) ·) (Ab 2 (Fy [0,3,23,24] [] 0 [] trivial (hJ1 ω trivial))))
 refine Ew 43 ?_ ?_
 refine Ab 8 (Ew 49 ?_ ?_)
 exact Ab 13 (Fa (.bool false) (λh=>by cases h))
 exact Vm [0,3,4,5,6,23,24,49] hS6
 exact Ab 8 (Vm [0,3,4,5,6,23,24,49] hS6)
 exact Ab 12 (Fa (.bool true) (λ_=>by omega))
noncomputable def dL (l:Vs):Value:=chP 33 [.one .b] [Cd l] λr=>r= .bool true->3<=l.n
theorem kG (l:Vs):AF Tryz.prog 33 [Cd l] (.lit (Hp [.one .b] (dL l))):=(Om (mC l)).1
abbrev Xa (v:V3):AV:= .elt 3 λxi=>[AV.int v.x,AV.int v.y,AV.int v.z].getD (0+xi) .top
theorem Akh (a:V3) (b:V3) (p:V3):∃r,Gc [.one .i] r/\AF Tryz.prog 54 [Bf a,Bf b,Xa p] r:=by
 refine Au func54 rfl ?_
 exact Ab 12 (Dy (Nd a b p) λv1 hv1=>(gs (Ao hv1 ·) (Ab 4 (Bb))))
noncomputable def Ao2 (a:V3) (b:V3) (p:V3):Value:=Kp 54 [.one .i] [Bf a,Bf b,Xa p]
theorem Ajm (a:V3) (b:V3) (p:V3):AF Tryz.prog 54 [Bf a,Bf b,Xa p] (.lit (Hp [.one .i] (Ao2 a b p))):=Bi (Akh a b p)
theorem Aki (c:V3) (k:Int) (p:V3):∃r,Gc [.one .i] r/\AF Tryz.prog 56 [Bf c,.int k,Xa p] r:=by
 refine Au func56 rfl ?_
 refine Ab 13 (Ew 7 ?_ ?_)
 exact Ab 8 (Dy (qK (Ai (c.x-p.x))) λv1 hv1=>(gs (Ao hv1 ·) (Ab 5 (Bb))))
 exact Ab 10 (Dy (qK (Ai (c.y-p.y))) λv2 hv2=>(gs (Ao hv2 ·) (Ab 4 (Bb))))
noncomputable def Ao3 (c:V3) (k:Int) (p:V3):Value:=Kp 56 [.one .i] [Bf c,.int k,Xa p]
theorem cP (c:V3) (k:Int) (p:V3):AF Tryz.prog 56 [Bf c,.int k,Xa p] (.lit (Hp [.one .i] (Ao3 c k p))):=Bi (Aki c k p)
theorem AmB (l:Vs) (p:V3) (h0:l.n<=64):∃r,Gc [.one .i] r/\AF Tryz.prog 35 [Cd l,Bf p] r:=by
 refine Au func35 rfl ?_
 refine Ab 6 (gs (Xb 0 ·) (Ab 5 (cE func53 (Ab 17 (cE func34 (Ab 13 (Iy (Ab 3 (gs (vnm [4,5,6,7,16] ·) (uT func52 λsp3 sp3p sp3a sp3b=>(Ab 8 (Vl [0,1,6,7,8] (λm s=>∃i iw,m=l.n-i/\(i<=l.n)/\s=⟨[(0,.yld 6),(1,.ptr 5 0),(6,Cd l),(7,.int (l.n:Int)),(8,.int (i:Int))],[(1,.box 118 [.fn 54 [.elt 3 (λxi=>[.int p.x,.int p.y,.int p.z].getD (0+xi) .top)]]),(2,.box 120 [.fn 56 [.elt 3 (λxi=>[.int p.x,.int p.y,.int p.z].getD (0+xi) .top)]]),(3,.box 3 [.int 0]),(4,.box 3 [.int iw]),(5,.box 22 [Cd l]),(6,.loop .ready none sp3 [(4,.ptr 1 0),(5,.ptr 2 0),(6,.ptr 3 0),(7,.ptr 4 0),(16,.fn 52 [.ptr 5 0])] 77)],7,35⟩) (l.n-0) ⟨0,0,rfl,Nat.zero_le _,κ⟩ ?_))))))))))))
 rintro _ _ ⟨i,iw,rfl,hF,rfl⟩ hJ1
 refine Ab 6 (Hn 9 ((i:Int)<(l.n:Int)) (λhx5 hx5d=>?_) (λhx5 hx5d=>?_))
 refine Ab 8 (gs (Gu i l.n ·) (Ab 7 ?_))
 have hm5:=Nat.mod_lt (i+1) (by omega:0<l.n)
 refine gs (Cp [(2,.int ((i+1:Nat):Int),.none),(5,.int (((i+1)%l.n:Nat):Int),.none),(6,Cw (Cd l) ((i+1)%l.n),.none)] [0,1,4,5,6,7,8] ⟨En (.int .i64 (IntKind.wrap .i64 ((i:Int)+1))) η,uD ((i+1:Nat):Int) (l.n:Int) (((i+1)%l.n:Nat):Int) ω rfl,Jn ((i+1)%l.n) l.n,trivial⟩ ·) (Ab 14 (iH sp3p sp3a (Ab 10 (iG sp3b ?_))))
 refine Ab 6 (Dy (Ajm (⟨(l.f i).x,(l.f i).y,0⟩) (⟨(l.f ((i+1)%l.n)).x,(l.f ((i+1)%l.n)).y,0⟩) p) λv8 hv8=>(gs (cG hv8 ·) (Ab 4 (Dy (cP (⟨(l.f i).x,(l.f i).y,0⟩) 0 p) λv9 hv9=>(Dy (cP (⟨(l.f i).x,(l.f i).y,0⟩) 1 p) λv10 hv10=>(Dy (cP (⟨(l.f ((i+1)%l.n)).x,(l.f ((i+1)%l.n)).y,0⟩) 0 p) λv11 hv11=>(Dy (cP (⟨(l.f ((i+1)%l.n)).x,(l.f ((i+1)%l.n)).y,0⟩) 1 p) λv12 hv12=>(gs (Cp [(2,_,.none),(5,_,.none),(8,_,.none),(11,_,.none)] [6,7,10,11,12,13,14] ⟨Lk hv9,Lk hv10,Lk hv11,Lk hv12,trivial⟩ ·) (Ab 7 (tsh 13 37 false [6,7,10,12,14,48] ?_ (λhS13=>?_)))))))))))
 refine Ab 9 (tsh 10 52 false [7,10,12,14,49] ?_ (λhS14=>?_))
 refine Ab 6 (tsh 10 65 false [7,62] ?_ (λhS15=>?_))
 exact Ab 4 (Pj (Ab 8 (gs (Cv ((i:Int)+1) ((i+1:Nat):Int) ·) (Ab 2 (Fy [0,1,6,7,8] [(1,1),(2,2),(3,3),(4,4),(5,5),(6,6)] 7 [] trivial (hJ1 _ _ (by omega:l.n-(i+1)<l.n-i) ⟨i+1,iw,rfl,ω,rfl⟩))))))
 refine Ew 65 ?_ ?_
 refine Ab 4 (Ew 69 ?_ ?_)
 refine Ab 6 (Ew 62 ?_ ?_)
 exact Ab 8 (Pj (Ab 8 (gs (Cv ((i:Int)+1) ((i+1:Nat):Int) ·) (Ab 2 (Fy [0,1,6,7,8] [(1,1),(2,2),(3,3),(4,4),(5,5),(6,6)] 7 [] trivial (hJ1 _ _ (by omega:l.n-(i+1)<l.n-i) ⟨i+1,(Ai (iw-1)),rfl,ω,rfl⟩))))))
 exact Vm [7,62] hS15
 exact Ab 6 (Vm [7,62] hS15)
 exact Ab 10 (Vm [7,62] hS15)
 refine Ew 52 ?_ ?_
 refine Ab 4 (Ew 56 ?_ ?_)
 refine Ab 6 (Ew 49 ?_ ?_)
 exact Ab 8 (Pj (Ab 8 (gs (Cv ((i:Int)+1) ((i+1:Nat):Int) ·) (Ab 2 (Fy [0,1,6,7,8] [(1,1),(2,2),(3,3),(4,4),(5,5),(6,6)] 7 [] trivial (hJ1 _ _ (by omega:l.n-(i+1)<l.n-i) ⟨i+1,(Ai (iw+1)),rfl,ω,rfl⟩))))))
 exact Vm [7,10,12,14,49] hS14
 exact Ab 6 (Vm [7,10,12,14,49] hS14)
 exact Ab 10 (Vm [7,10,12,14,49] hS14)
 refine Ew 37 ?_ ?_
 refine Ab 6 (Ew 43 ?_ ?_)
 refine Ab 7 (Ew 48 ?_ ?_)
 exact Ab 9 (Pj (Ab 9 (aN (Ab 3 (Iy (Ab 4 (Bb)))))))
 exact Vm [6,7,10,12,14,48] hS13
 exact Ab 7 (Vm [6,7,10,12,14,48] hS13)
 exact Ab 13 (Vm [6,7,10,12,14,48] hS13)
 refine Ab 5 (aN (Ab 9 (Ew 76 ?_ ?_)))
 exact Ab 8 (Iy (Ab 4 (Bb)))
 exact Ab 9 (Iy (Ab 4 (Bb)))
noncomputable def ApD (l:Vs) (p:V3):Value:=Kp 35 [.one .i] [Cd l,Bf p]
theorem vZ (l:Vs) (p:V3) (h0:l.n<=64):AF Tryz.prog 35 [Cd l,Bf p] (.lit (Hp [.one .i] (ApD l p))):=Bi (AmB l p h0)
structure Mi where
 o:Vs
 hn:Nat
 h:Nat->Vs
 low:Int
 high:Int
abbrev hsA (f:Mi):AV:= .sl 1 f.hn λi=>Cd (f.h i)
abbrev Kk (f:Mi):AV:= .agg [Cd f.o,hsA f,.int f.low,.int f.high]
def Zh (f:Mi):Prop:=f.o.n<=64/\f.hn<=16/\∀i,(f.h i).n<=64
def Ca (f:Mi):Nat->Vs
 |0=>f.o
 |k+1=>f.h k
theorem Aa5 {f:Mi} (h:Zh f):∀k,(Ca f k).n<=64
 |0=>h.1
 |k+1=>h.2.2 k
theorem mD (l:Vs) (h:gB (dL l)=true):3<=l.n:=(Om (mC l)).2 (congrArg AV.bool h)
theorem lC (f:Mi) (h0:Zh f):∃r,(Gc [.one .b] r/\(r= .bool true->3<=f.o.n/\∀q,q<f.hn->3<=(f.h q).n))/\AF Tryz.prog 23 [Kk f] r:=by
 have hn8:=h0.1
 have hn9:=h0.2.1
 refine Au func23 rfl ?_
 refine Ab 11 (gs (Ao (kG f.o) ·) (Ab 2 (Ais 20 (gB (dL f.o)) (λhx1=>?_) (λhx1=>?_))))
 refine Ab 6 (Hn 26 ((16:Int)<(f.hn:Int)) (λhx2 hx2d=>?_) (λhx2 hx2d=>?_))
 exact Ab 26 (Fa (.bool false) (λh=>by cases h))
 refine Ab 5 (Ew 31 ?_ ?_)
 exact Ab 21 (Fa (.bool false) (λh=>by cases h))
 refine Ab 5 (Ew 36 ?_ ?_)
 exact Ab 16 (Fa (.bool false) (λh=>by cases h))
 refine Ab 8 (Ew 42 ?_ ?_)
 exact Ab 8 (Fa (.bool false) (λh=>by cases h))
 refine Ab 7 (gs (Kb 2 22 1 1 (λ_=>Cd f.o) ·) (Ab 14 (gs (Xc 2 22 1 1 (λ_=>Cd f.o) (λxi=>Cd (Ca f xi)) (λx9 hx9=>by(obtain rfl:x9=0:=(ω));rfl) ·) (AnF [1,2,3,47,48,49] f.hn (λi=>∀q,q<i->3<=(f.h q).n) (λi=>⟨[(1,.ptr 0 0),(2,.ptr 1 0),(3,.ptr 3 0),(47,hsA f),(48,.int (f.hn:Int)),(49,.int (i:Int))],[(0,.box 25 [Cd f.o,hsA f,.int f.low,.int f.high]),(1,.box 4 [.bool false]),(2,.vec 22 1 (i+1) (λxi=>Cd (Ca f xi))),(3,.box 23 [.osl 2 1 (i+1)])],4,115⟩) (λq hq=>absurd hq (Nat.not_lt_zero q)) (λi hin hFi hJ1=>?_)))))
 have hn0:=h0.2.2 i
 refine Ab 6 (Hn 50 ((i:Int)<(f.hn:Int)) (λhx5 hx5d=>?_) (λhx5 hx5d=>?_))
 refine Ab 7 (gs (Gu i f.hn ·) (Ab 8 (gs (Ao (kG (f.h i)) ·) (Ab 3 (Ais 55 (gB (dL (f.h i))) (λhx6=>?_) (λhx6=>?_))))))
 refine Ab 7 (cE func34 (Ab 13 (Iy (Ab 3 (gs (vnm [1,2,3,5,47,48,49,57] ·) (uT func52 λsp8 sp8p sp8a sp8b=>(Ab 8 (Vl [0,1,6,7,8] (λm s=>∃i1,m=((f.h i).n)-i1/\(i1<=((f.h i).n))/\s=⟨[(0,.yld 5),(1,.ptr 4 0),(6,Cd (f.h i)),(7,.int ((f.h i).n:Int)),(8,.int ((i1:Nat):Int))],[(0,.box 25 [Cd f.o,hsA f,.int f.low,.int f.high]),(1,.box 4 [.bool false]),(2,.vec 22 1 (i+1) (λxi=>Cd (Ca f xi))),(3,.box 23 [.osl 2 1 (i+1)]),(4,.box 22 [Cd (f.h i)]),(5,.loop .ready none sp8 [(1,.ptr 0 0),(2,.ptr 1 0),(3,.ptr 3 0),(5,Cd (f.h i)),(47,hsA f),(48,.int (f.hn:Int)),(49,.int (i:Int)),(57,.fn 52 [.ptr 4 0])] 115)],6,35⟩) (((f.h i).n)-0) ⟨0,rfl,Nat.zero_le _,κ⟩ ?_))))))))
 rintro _ _ ⟨i1,rfl,hF,rfl⟩ hJ2
 refine Ab 6 (Hn 9 (((i1:Nat):Int)<((f.h i).n:Int)) (λhx10 hx10d=>?_) (λhx10 hx10d=>?_))
 refine Ab 8 (gs (Gu i1 ((f.h i).n) ·) (Ab 7 ?_))
 have hm10:=Nat.mod_lt (i1+1) (by omega:0<(f.h i).n)
 refine gs (Cp [(2,.int ((i1+1:Nat):Int),.none),(5,.int (((i1+1)%((f.h i).n):Nat):Int),.none),(6,Cw (Cd (f.h i)) ((i1+1)%((f.h i).n)),.none)] [0,1,4,5,6,7,8] ⟨En (.int .i64 (IntKind.wrap .i64 (((i1:Nat):Int)+1))) η,uD ((i1+1:Nat):Int) ((f.h i).n:Int) (((i1+1)%((f.h i).n):Nat):Int) ω rfl,Jn ((i1+1)%((f.h i).n)) ((f.h i).n),trivial⟩ ·) (Ab 14 (iH sp8p sp8a (Ab 10 (iG sp8b ?_))))
 refine Ab 7 (Dy (vZ f.o (⟨((f.h i).f i1).x,((f.h i).f i1).y,0⟩) ω) λv13 hv13=>(gs (Ao hv13 ·) (Ab 3 (Ew 64 ?_ ?_))))
 exact Ab 9 (Pj (Ab 9 (aN (Ab 8 (Fa (.bool false) (λh=>by cases h))))))
 refine Ab 11 (Vl [2,6,7,65,66,67] (λm s=>∃j,m=i+1-j/\(j<=i+1)/\s=⟨[(2,.ptr 1 0),(6,.ptr 8 0),(7,.ptr 9 0),(65,.osl 2 1 (i+1)),(66,.int ((i+1:Nat):Int)),(67,.int (j:Int))],[(0,.box 25 [Cd f.o,hsA f,.int f.low,.int f.high]),(1,.box 4 [.bool false]),(2,.vec 22 1 (i+1) (λxi=>Cd (Ca f xi))),(3,.box 23 [.osl 2 1 (i+1)]),(4,.box 22 [Cd (f.h i)]),(5,.loop .busy none sp8 [(1,.ptr 0 0),(2,.ptr 1 0),(3,.ptr 3 0),(5,Cd (f.h i)),(47,hsA f),(48,.int (f.hn:Int)),(49,.int (i:Int)),(57,.fn 52 [.ptr 4 0])] 115),(6,.box 79 [.int (((f.h i).f i1).x),.int (((f.h i).f i1).y),.int (((f.h i).f i1).z)]),(7,.box 79 [.int (((f.h i).f ((i1+1)%((f.h i).n))).x),.int (((f.h i).f ((i1+1)%((f.h i).n))).y),.int (((f.h i).f ((i1+1)%((f.h i).n))).z)]),(8,.box 79 [.int (((f.h i).f i1).x),.int (((f.h i).f i1).y),.int 0]),(9,.box 79 [.int (((f.h i).f ((i1+1)%((f.h i).n))).x),.int (((f.h i).f ((i1+1)%((f.h i).n))).y),.int 0])],10,115⟩) (i+1-0) ⟨0,rfl,Nat.zero_le _,κ⟩ ?_)
 rintro _ _ ⟨j,rfl,hF,rfl⟩ hJ3
 have hn1:=Aa5 h0 j
 refine Ab 6 (Hn 68 ((j:Int)<((i+1:Nat):Int)) (λhx14 hx14d=>?_) (λhx14 hx14d=>?_))
 refine Ab 7 (gs (Gu j (i+1) ·) (gs (Cu (Cd (Ca f j)) (.read 2) (Qb 22 (.tmp 69) κ isAgg22 2 j 0 1 κ 22 (i+1) (λxi=>Cd (Ca f xi)) κ ω δ) ·) (Ab 6 (cE func34 (Ab 13 (Iy (Ab 3 (gs (vnm [2,6,7,65,66,67,72] ·) (uT func52 λsp16 sp16p sp16a sp16b=>(Ab 8 (Vl [0,1,6,7,8] (λm s=>∃i2,m=((Ca f j).n)-i2/\(i2<=((Ca f j).n))/\s=⟨[(0,.yld 11),(1,.ptr 10 0),(6,Cd (Ca f j)),(7,.int ((Ca f j).n:Int)),(8,.int ((i2:Nat):Int))],[(0,.box 25 [Cd f.o,hsA f,.int f.low,.int f.high]),(1,.box 4 [.bool false]),(2,.vec 22 1 (i+1) (λxi=>Cd (Ca f xi))),(3,.box 23 [.osl 2 1 (i+1)]),(4,.box 22 [Cd (f.h i)]),(5,.loop .busy none sp8 [(1,.ptr 0 0),(2,.ptr 1 0),(3,.ptr 3 0),(5,Cd (f.h i)),(47,hsA f),(48,.int (f.hn:Int)),(49,.int (i:Int)),(57,.fn 52 [.ptr 4 0])] 115),(6,.box 79 [.int (((f.h i).f i1).x),.int (((f.h i).f i1).y),.int (((f.h i).f i1).z)]),(7,.box 79 [.int (((f.h i).f ((i1+1)%((f.h i).n))).x),.int (((f.h i).f ((i1+1)%((f.h i).n))).y),.int (((f.h i).f ((i1+1)%((f.h i).n))).z)]),(8,.box 79 [.int (((f.h i).f i1).x),.int (((f.h i).f i1).y),.int 0]),(9,.box 79 [.int (((f.h i).f ((i1+1)%((f.h i).n))).x),.int (((f.h i).f ((i1+1)%((f.h i).n))).y),.int 0]),(10,.box 22 [Cd (Ca f j)]),(11,.loop .ready none sp16 [(2,.ptr 1 0),(6,.ptr 8 0),(7,.ptr 9 0),(65,.osl 2 1 (i+1)),(66,.int ((i+1:Nat):Int)),(67,.int (j:Int)),(72,.fn 52 [.ptr 10 0])] 115)],12,35⟩) (((Ca f j).n)-0) ⟨0,rfl,Nat.zero_le _,κ⟩ ?_)))))))))))
 rintro _ _ ⟨i2,rfl,hF,rfl⟩ hJ4
 refine Ab 6 (Hn 9 (((i2:Nat):Int)<((Ca f j).n:Int)) (λhx18 hx18d=>?_) (λhx18 hx18d=>?_))
 refine Ab 8 (gs (Gu i2 ((Ca f j).n) ·) (Ab 7 ?_))
 have hm18:=Nat.mod_lt (i2+1) (by omega:0<(Ca f j).n)
 refine gs (Cp [(2,.int ((i2+1:Nat):Int),.none),(5,.int (((i2+1)%((Ca f j).n):Nat):Int),.none),(6,Cw (Cd (Ca f j)) ((i2+1)%((Ca f j).n)),.none)] [0,1,4,5,6,7,8] ⟨En (.int .i64 (IntKind.wrap .i64 (((i2:Nat):Int)+1))) η,uD ((i2+1:Nat):Int) ((Ca f j).n:Int) (((i2+1)%((Ca f j).n):Nat):Int) ω rfl,Jn ((i2+1)%((Ca f j).n)) ((Ca f j).n),trivial⟩ ·) (Ab 14 (iH sp16p sp16a (Ab 10 (iG sp16b ?_))))
 refine Ab 7 (Dy (dU (⟨((f.h i).f i1).x,((f.h i).f i1).y,0⟩) (⟨((f.h i).f ((i1+1)%((f.h i).n))).x,((f.h i).f ((i1+1)%((f.h i).n))).y,0⟩) (⟨((Ca f j).f i2).x,((Ca f j).f i2).y,0⟩) (⟨((Ca f j).f ((i2+1)%((Ca f j).n))).x,((Ca f j).f ((i2+1)%((Ca f j).n))).y,0⟩)) λv21 hv21=>(gs (Ao hv21 ·) (Ab 2 (Ew 79 ?_ ?_))))
 exact Ab 8 (Pj (Ab 9 (aN (Ab 7 (Pj (Ab 9 (aN (Ab 8 (Fa (.bool false) (λh=>by cases h))))))))))
 exact Ab 3 (Pj (Ab 8 (gs (Cv (((i2:Nat):Int)+1) ((i2+1:Nat):Int) ·) (Ab 2 (Fy [0,1,6,7,8] [(0,0),(1,1),(2,2),(3,3),(4,4),(5,5),(6,6),(7,7),(8,8),(9,9),(10,10),(11,11)] 12 [(22,1,i+1,(λxi=>Cd (Ca f xi)))] ⟨(Ce λ_ _=>rfl),trivial⟩ (hJ4 _ _ (by omega:((Ca f j).n)-(i2+1)<((Ca f j).n)-i2) ⟨i2+1,rfl,ω,rfl⟩))))))
 exact Ab 5 (aN (Ab 4 (gs (Cv ((j:Int)+1) ((j+1:Nat):Int) ·) (Ab 2 (Fy [2,6,7,65,66,67] [(0,0),(1,1),(2,2),(3,3),(4,4),(5,5),(6,6),(7,7),(8,8),(9,9)] 10 [(22,1,i+1,(λxi=>Cd (Ca f xi)))] ⟨(Ce λ_ _=>rfl),trivial⟩ (hJ3 _ _ (by omega:i+1-(j+1)<i+1-j) ⟨j+1,rfl,ω,rfl⟩))))))
 exact Ab 6 (Pj (Ab 8 (gs (Cv (((i1:Nat):Int)+1) ((i1+1:Nat):Int) ·) (Ab 2 (Fy [0,1,6,7,8] [(0,0),(1,1),(2,2),(3,3),(4,4),(5,5)] 6 [(22,1,i+1,(λxi=>Cd (Ca f xi)))] ⟨(Ce λ_ _=>rfl),trivial⟩ (hJ2 _ _ (by omega:((f.h i).n)-(i1+1)<((f.h i).n)-i1) ⟨i1+1,rfl,ω,rfl⟩))))))
 exact Ab 5 (aN (Ab 5 (gs (Kb 6 22 1 1 (λ_=>Cd (f.h i)) ·) (gs (Mt 24 22 22 1 (i+1) 1 2 6 7 (λxi=>Cd (Ca f xi)) (λ_=>Cd (f.h i)) (λxi=>Cd (Ca f xi)) (λi hi=>rfl) (λi hi=>by(obtain rfl:i=0:=(ω));rfl) ·) (Ab 5 (gs (Cv ((i:Int)+1) ((i+1:Nat):Int) ·) (Ab 2 (Fy [1,2,3,47,48,49] [(0,0),(1,1),(7,2),(3,3)] 4 [(22,1,1,(λ_=>Cd (f.h i))),(22,1,i+1+1,(λxi=>Cd (Ca f xi)))] ⟨(Ce λ_ _=>rfl),(Ce λ_ _=>rfl),trivial⟩ (hJ1 ω (λq hq=>by rcases Nat.lt_succ_iff_lt_or_eq.1 hq with g|rfl;exact hFi q g;exact mD _ hx6))))))))))
 exact Ab 13 (Fa (.bool false) (λh=>by cases h))
 refine Ab 16 (Vl [1,2,87,88,89] (λm s=>∃a,m=f.hn-a/\(a<=f.hn)/\s=⟨[(1,.ptr 0 0),(2,.ptr 1 0),(87,hsA f),(88,.int (f.hn:Int)),(89,.int (a:Int))],[(0,.box 25 [Cd f.o,hsA f,.int f.low,.int f.high]),(1,.box 4 [.bool false]),(2,.vec 22 1 (i+1) (λxi=>Cd (Ca f xi))),(3,.box 23 [.osl 2 1 (i+1)])],4,115⟩) (f.hn-0) ⟨0,rfl,Nat.zero_le _,κ⟩ ?_)
 rintro _ _ ⟨a,rfl,hF,rfl⟩ hJ5
 have hn2:=h0.2.2 a
 refine Ab 6 (Hn 90 ((a:Int)<(f.hn:Int)) (λhx22 hx22d=>?_) (λhx22 hx22d=>?_))
 refine Ab 8 (gs (Gu a f.hn ·) (Ab 14 (Vl [1,2,12,13,87,88,89,95,96,97] (λm s=>∃d,m=f.hn-d/\(d<=f.hn)/\s=⟨[(1,.ptr 0 0),(2,.ptr 1 0),(12,.int (a:Int)),(13,Cd (f.h a)),(87,hsA f),(88,.int (f.hn:Int)),(89,.int (a:Int)),(95,hsA f),(96,.int (f.hn:Int)),(97,.int (d:Int))],[(0,.box 25 [Cd f.o,hsA f,.int f.low,.int f.high]),(1,.box 4 [.bool false]),(2,.vec 22 1 (i+1) (λxi=>Cd (Ca f xi))),(3,.box 23 [.osl 2 1 (i+1)])],4,115⟩) (f.hn-0) ⟨0,rfl,Nat.zero_le _,κ⟩ ?_)))
 rintro _ _ ⟨d,rfl,hF,rfl⟩ hJ6
 have hn3:=h0.2.2 d
 refine Ab 6 (Hn 98 ((d:Int)<(f.hn:Int)) (λhx23 hx23d=>?_) (λhx23 hx23d=>?_))
 refine Ab 8 (gs (Gu d f.hn ·) (Ab 5 ?_))
 have hh3:=hFi a ω
 refine Ab 6 (Ait 105 ((a:Int)=(d:Int)) (λhx24 hx24d=>?_) (λhx24 hx24d=>?_))
 exact Ab 14 (gs (Cv ((d:Int)+1) ((d+1:Nat):Int) ·) (Ab 2 (mH [1,2,12,13,87,88,89,95,96,97] (hJ6 _ _ (by omega:f.hn-(d+1)<f.hn-d) ⟨d+1,rfl,ω,rfl⟩))))
 refine Ab 2 (gs (Gu 0 ((f.h a).n) ·) (Ab 1 (Dy (vZ (f.h d) ((f.h a).f 0) ω) λv25 hv25=>(gs (Ao hv25 ·) (Ab 4 (Ew 112 ?_ ?_))))))
 exact Ab 16 (Fa (.bool false) (λh=>by cases h))
 exact Ab 5 (gs (Cv ((d:Int)+1) ((d+1:Nat):Int) ·) (Ab 2 (mH [1,2,12,13,87,88,89,95,96,97] (hJ6 _ _ (by omega:f.hn-(d+1)<f.hn-d) ⟨d+1,rfl,ω,rfl⟩))))
 exact Ab 8 (gs (Cv ((a:Int)+1) ((a+1:Nat):Int) ·) (Ab 2 (mH [1,2,87,88,89] (hJ5 _ _ (by omega:f.hn-(a+1)<f.hn-a) ⟨a+1,rfl,ω,rfl⟩))))
 exact Ab 12 (Fa (.bool true) (λ_=>⟨mD _ hx1,λq hq=>hFi q ω⟩))
 exact Ab 32 (Fa (.bool false) (λh=>by cases h))
noncomputable def Mn (f:Mi):Value:=chP 23 [.one .b] [Kk f] λr=>r= .bool true->3<=f.o.n/\∀q,q<f.hn->3<=(f.h q).n
theorem Ql (f:Mi) (h0:Zh f):AF Tryz.prog 23 [Kk f] (.lit (Hp [.one .b] (Mn f))):=(Om (lC f h0)).1
theorem AgC (l:Vs) (p:V3) (h0:l.n<=64):∃r,Gc [.one .i] r/\AF Tryz.prog 190 [Cd l,Xa p] r:=by
 refine Au func190 rfl ?_
 exact Ab 9 (Dy (vZ l p ω) λv1 hv1=>(gs (Ao hv1 ·) (Ab 4 (Bb))))
noncomputable def AmG (l:Vs) (p:V3):Value:=Kp 190 [.one .i] [Cd l,Xa p]
theorem qJ (l:Vs) (p:V3) (h0:l.n<=64):AF Tryz.prog 190 [Cd l,Xa p] (.lit (Hp [.one .i] (AmG l p))):=Bi (AgC l p h0)
theorem AgA (f:Mi) (p:V3) (h0:Zh f):∃r,Gc [.one .b] r/\AF Tryz.prog 201 [hsA f,.fn 202 [.elt 1 λxi=>[AV.fn 190 [Xa p]].getD (0+xi) .top]] r:=by
 have hn8:=h0.1
 have hn9:=h0.2.1
 refine Au func201 rfl ?_
 refine Ab 9 (cE func234 (Ab 14 (Vl [0,1,7,8] (λm s=>∃q,m=f.hn-q/\(q<=f.hn)/\s=⟨[(0,hsA f),(1,.fn 202 [.elt 1 (λxi=>[.fn 190 [.elt 3 (λxi=>[.int p.x,.int p.y,.int p.z].getD (0+xi) .top)]].getD (0+xi) .top)]),(7,.int (f.hn:Int)),(8,.int (q:Int))],[],0,19⟩) (f.hn-0) ⟨0,rfl,Nat.zero_le _,κ⟩ ?_)))
 rintro _ _ ⟨q,rfl,hF,rfl⟩ hJ1
 have hnq:=h0.2.2 q
 refine Ab 6 (Hn 9 ((q:Int)<(f.hn:Int)) (λhx2 hx2d=>?_) (λhx2 hx2d=>?_))
 refine Ab 16 (gs (Gu q f.hn ·) (Ab 1 (uS func202 (Ab 9 (Dy (qJ (f.h q) p ω) λv4 hv4=>(gs (cG hv4 ·) (Ab 5 (Iy (Ab 2 (Ew 16 ?_ ?_))))))))))
 exact Ab 13 (Iy (Ab 5 (Bb)))
 exact Ab 5 (gs (Cv ((q:Int)+1) ((q+1:Nat):Int) ·) (Ab 2 (mH [0,1,7,8] (hJ1 _ _ (by omega:f.hn-(q+1)<f.hn-q) ⟨q+1,rfl,ω,rfl⟩))))
 exact Ab 12 (Iy (Ab 5 (Bb)))
noncomputable def AmC (f:Mi) (p:V3):Value:=Kp 201 [.one .b] [hsA f,.fn 202 [.elt 1 λxi=>[AV.fn 190 [Xa p]].getD (0+xi) .top]]
theorem AeX (f:Mi) (p:V3) (h0:Zh f):AF Tryz.prog 201 [hsA f,.fn 202 [.elt 1 λxi=>[AV.fn 190 [Xa p]].getD (0+xi) .top]] (.lit (Hp [.one .b] (AmC f p))):=Bi (AgA f p h0)
theorem Akj (f:Mi) (p:V3) (h0:Zh f):∃r,Gc [.one .b] r/\AF Tryz.prog 152 [Kk f,.fn 190 [Xa p]] r:=by
 have hn8:=h0.1
 have hn9:=h0.2.1
 refine Au func152 rfl ?_
 refine Ab 7 (gs (Xb 1 ·) (Ab 5 (Dy (qJ f.o p ω) λv1 hv1=>(gs (cG hv1 ·) (Ab 2 (Ew 10 ?_ ?_))))))
 exact Ab 3 (Dy (AeX f p h0) λv3 hv3=>(gs (Ao hv3 ·) (Ab 6 (Bb))))
 exact Ab 10 (Bb)
noncomputable def Ao4 (f:Mi) (p:V3):Value:=Kp 152 [.one .b] [Kk f,.fn 190 [Xa p]]
theorem Ajn (f:Mi) (p:V3) (h0:Zh f):AF Tryz.prog 152 [Kk f,.fn 190 [Xa p]] (.lit (Hp [.one .b] (Ao4 f p))):=Bi (Akj f p h0)
theorem yB (f:Mi) (p:V3) (h0:Zh f):∃r,Gc [.one .b] r/\AF Tryz.prog 138 [Kk f,Bf p] r:=by
 have hn8:=h0.1
 have hn9:=h0.2.1
 refine Au func138 rfl ?_
 refine Ab 7 (gs (Xb 1 ·) (Ab 8 (Ew 10 ?_ ?_)))
 refine Ab 7 (Ew 17 ?_ ?_)
 exact Ab 2 (Dy (Ajn f p h0) λv3 hv3=>(gs (Ao hv3 ·) (Ab 5 (Bb))))
 exact Ab 8 (Bb)
 exact Ab 15 (Bb)
noncomputable def AgD (f:Mi) (p:V3):Value:=Kp 138 [.one .b] [Kk f,Bf p]
theorem dT (f:Mi) (p:V3) (h0:Zh f):AF Tryz.prog 138 [Kk f,Bf p] (.lit (Hp [.one .b] (AgD f p))):=Bi (yB f p h0)
variable {P:Program} {R:Option Nat} {B:Nat} {D0:Ar} {Q:Exit->St->Prop} {fn0:Func} {φ:AV->Prop} {c:Bu} {fs:List FR}
def LR (ψ:Value->List Value->Prop) (r:AV):Prop:=∃V us,r= .tup (.lit V::us.map .lit)/\ψ V us
theorem Aho {a b:List Value} (h:a.map AV.lit=b.map AV.lit):a=b:=List.map_inj_right (λx y h=>by cases h;rfl) |>.1 h
theorem Kz {f:FuncId} {fn:Func} {t:TypeId} {us:List Value} {hs:Ta} {args:List AV} {ψ:Value->List Value->Prop} (hf:Tryz.prog.funcs[f]?=some fn) {x:Code} (hc:fn.body=some x:=by rfl) (h:TE fn (LR ψ) ⟨⟨.code x,[],⟨Df args 0,AaU t us hs,hs.length+1,fn.ntmps⟩⟩,[.lnt t hs]⟩) (hle:Nat.ble args.length fn.ntmps=true:=by kernel_rfl) (hd:Ao0 hs=true:=by kernel_rfl):∃V us',ψ V us'/\jO Tryz.prog f t us us' hs args V:=by
 obtain⟨r,⟨V,us',rfl,h1⟩,h2⟩:=h
 refine⟨V,us',h1,AlZ hf hc hle hd λB D0 hA=>cM (h2 B none D0 _ (.lnt t hs D0 hA)).m ?_⟩
 rintro e s ⟨he,V',us2,e1,h3,h4⟩
 simp only[AV.tup.injEq,List.cons.injEq,AV.lit.injEq] at e1
 obtain⟨rfl,e2⟩:=e1
 cases Aho e2
 exact⟨he,h3,h4⟩
theorem AhJ {hs:Ta} {h:Du} (e:(List.range hs.length).map (λi=>Aq h (i+1))=hs.map λp=>some (.box p.1 p.2)) (i:Nat) (hi:i<hs.length):Aq h (i+1)=some (.box (hs.getD i (0,[])).1 (hs.getD i (0,[])).2):=by
 have h1:((List.range hs.length).map (λi=>Aq h (i+1)))[i]?=(hs.map λp=>some (Bc.box p.1 p.2))[i]?:=by rw[e]
 have e2:hs.getD i (0,[])=hs[i]:=by simp[hi]
 simp only[List.getElem?_map,List.getElem?_range hi,List.getElem?_eq_getElem hi,Option.map_some,Option.some.injEq] at h1
 rw[h1,e2]
theorem ApZ {fn:Func} {t:TypeId} {hs:Ta} (V:Value) (us:List Value) (hv:Sy P fn c.s=some (.lit V):=by kernel_rfl) (hb:Aq c.s.h 0=some (.box t (us.map .lit)):=by kernel_rfl) (ho:(List.range hs.length).map (λi=>Aq c.s.h (i+1))=hs.map (λp=>some (.box p.1 p.2)):=by kernel_rfl) (hn:c.isE=true:=by kernel_rfl):Go P R B D0 (QL P B D0 fn (.tup (.lit V::us.map .lit)) t hs) c:=by
 have hr:=eZ (B:=B) (D0:=D0) hv
 obtain⟨m,k,s⟩:=c
 unfold Bu.isE at hn
 split at hn
 rename_i h1 h2
 cases h1;cases h2
 exact⟨⟨s,Hv.refl s,.inr rfl,V,us,rfl,hr,hb,AhJ ho⟩⟩
 rename_i h1 h2
 cases h1;cases h2
 exact⟨⟨s,Hv.refl s,.inl rfl,V,us,rfl,hr,hb,AhJ ho⟩⟩
 cases hn
theorem Sk {t:TypeId} {hs:Ta} {ψ:Value->List Value->Prop} (V:Value) (us:List Value) (h:ψ V us) (hv:Sy Tryz.prog fn0 c.s=some (.lit V):=by kernel_rfl) (hb:Aq c.s.h 0=some (.box t (us.map .lit)):=by kernel_rfl) (ho:(List.range hs.length).map (λi=>Aq c.s.h (i+1))=hs.map (λp=>some (.box p.1 p.2)):=by kernel_rfl) (hn:c.isE=true:=by kernel_rfl):TE fn0 (LR ψ) ⟨c,[.lnt t hs]⟩:=
 ⟨_,⟨V,us,rfl,h⟩,λB R D Q hx=>by cases hx with|lnt _ _ D0 h=>exact ApZ V us hv hb ho hn⟩
theorem All {s:St} (id:Nat) (t:TypeId) (e n n':Nat) (f g:Nat->AV) (hc:Aq s.h id=some (.vec t e n f)) (hn:n'<=n) (hfg:∀i,i<n'->f i=g i) (E:Ar) (a:Act) (hs:Im B D0 E s a):∃E',E'.w=E.w/\Im B D0 E' ⟨s.t,hset s.h id (.vec t e n' g),s.nx,s.n⟩ a:=⟨E,rfl,by
 refine⟨hs.size,hs.df,hs.t,⟨λi x hx=>?_,λi j x y hx hy hne=>?_,hs.h.bnd,hs.h.abd,hs.h.le0,hs.h.new,hs.h.B⟩,hs.A⟩
 rw[show Aq (hset s.h id (.vec t e n' g)) i=if id=i then some (.vec t e n' g) else Aq s.h i from Ef _ _ _ _] at hx
 by_cases e1:id=i
 subst e1
 rw[if_pos rfl] at hx
 cases hx
 obtain⟨l1,l2,l3,l4⟩:=hs.h.live id _ hc
 refine⟨l1,?_,l3,l4⟩
 cases l2 with
 |vec _ _ _ _ b cap arr h1 hn1 hc2 hm hr=>exact .vec _ _ _ _ _ _ arr h1 hn1 ω hm λi j hi hj=>by rw[<-hfg i hi];exact hr i j ω hj
 rw[if_neg e1] at hx;exact hs.h.live i x hx
 have real:∀q z,Aq (hset s.h id (.vec t e n' g)) q=some z->∃z',Aq s.h q=some z':=λq z hz=>by
  rw[show Aq (hset s.h id (.vec t e n' g)) q=if id=q then some (.vec t e n' g) else Aq s.h q from Ef _ _ _ _] at hz
  by_cases e:id=q
  subst e;exact⟨_,hc⟩
  rw[if_neg e] at hz;exact⟨z,hz⟩
 obtain⟨x',hx'⟩:=real i x hx
 obtain⟨y',hy'⟩:=real j y hy
 exact hs.h.inj i j x' y' hx' hy' hne⟩
theorem vsh (id:Nat) (t:TypeId) (e n n':Nat) (f g:Nat->AV) (hn:n'<=n) (hfg:∀i,i<n'->f i=g i) (hk:Go P R B D0 Q (c.setB id (.vec t e n' g))) (hc:Aq c.s.h id=some (.vec t e n f):=by kernel_rfl):Go P R B D0 Q c:=
 Fw _ (λE a hs=>All id t e n n' f g hc hn hfg E a hs) hk
def AkJ (h:Nat->Option Bc) (ids:List Nat):Ta:=ids.map λi=>match h i with|some (.box t cs)=>(t,cs)|_=>(0,[])
theorem vcx {P:Program} (id:Nat) (ids:List Nat) {f:FuncId} {t:TypeId} {us us':List Value} {hs:Ta} {args:List AV} {r:Value} (hf:jO P f t us us' hs args r) (hk:Go P R B D0 Q (c.put (.lit r) (.setr ids id (.box t (us'.map .lit))))) (ho:c.o.op= .call { callee:= .value c.fx,args:=c.xs,argTypes:=c.ts }:=by kernel_rfl) (hx:c.s.ev c.fx= .fn f c.cps:=by kernel_rfl) (hcall:∀(vs:Array Value) w,(callFunc f vs).run P w= .ok (.enter f vs) w:=by intro _ _;kernel_rfl) (hdi:Km (id::ids)=true:=by kernel_rfl) (hp:Aq c.s.h id=some (.box t (us.map .lit)):=by kernel_rfl) (hps:ids.map (Aq c.s.h)=(AkJ (Aq c.s.h) ids).map λp=>some (.box p.1 p.2):=by kernel_rfl) (hhs:tG (id::ids) (AkJ (Aq c.s.h) ids)=hs:=by kernel_rfl) (hargs:(c.xs.toList.map c.s.ev++c.cps).map (fK (id::ids))=args:=by kernel_rfl) (hok:c.ok=true:=by kernel_rfl) (hlow:Bj.low (.setr ids id (.box t (us'.map .lit))) c.s.nx=true:=by kernel_rfl):Go P R B D0 Q c:=
 Ou _ _ (lU c.fx f c.xs c.ts ho c.cps hx hcall id ids hdi t us us' hp _ hps hs hhs args hargs r hf) hk hok hlow
def oFx (o:Oper):Operand:=match o.op with| .call cl=>(match cl.callee with| .value x=>x|_=>default)|_=>default
def Anl (ev:Operand->AV) (o:Oper):List AV:=match ev (oFx o) with| .fn _ l=>l|_=>[]
theorem aX {P:Program} {B:Nat} {D0:Ar} {o:Oper} {ev:Operand->AV} {pre:Nat->Option Bc} (id:Nat) (ids:List Nat) {f:FuncId} {t:TypeId} {us us':List Value} {hs:Ta} {args:List AV} {r:Value} (hf:jO P f t us us' hs args r) (ho:o.op= .call { callee:= .value (oFx o),args:=Oper.cxs o,argTypes:=Oper.cts o }:=by kernel_rfl) (hx:ev (oFx o)= .fn f (Anl ev o):=by kernel_rfl) (hcall:∀(vs:Array Value) w,(callFunc f vs).run P w= .ok (.enter f vs) w:=by intro _ _;kernel_rfl) (hdi:Km (id::ids)=true:=by kernel_rfl) (hp:pre id=some (.box t (us.map .lit)):=by kernel_rfl) (hps:ids.map pre=(AkJ pre ids).map λp=>some (.box p.1 p.2):=by kernel_rfl) (hhs:tG (id::ids) (AkJ pre ids)=hs:=by kernel_rfl) (hargs:((Oper.cxs o).toList.map ev++Anl ev o).map (fK (id::ids))=args:=by kernel_rfl):Dv P B D0 o ev pre (.lit r) (.setr ids id (.box t (us'.map .lit))):=
 lU (oFx o) f (Oper.cxs o) (Oper.cts o) ho (Anl ev o) hx hcall id ids hdi t us us' hp _ hps hs hhs args hargs r hf
end Go.Proofs.YtihcpmmopejpoaaGreatDoor