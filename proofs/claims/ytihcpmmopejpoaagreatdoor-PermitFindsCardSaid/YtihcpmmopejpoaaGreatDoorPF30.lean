/- Part 30 of the proof of PF.card_holds: no condition beyond the row's. -/
import Derived.Test.YtihcpmmopejpoaaGreatDoorPF29
set_option maxRecDepth 100000
set_option maxHeartbeats 40000000
namespace Go.Proofs.YtihcpmmopejpoaaGreatDoor
open Go.Proofs.Tryz
open Go.RowKit
def Bu.setT (c:Bu) (d:Nat) (V:AV):Bu:=⟨c.m,c.k,⟨(d,V)::c.s.t,c.s.h,c.s.nx,c.s.n⟩⟩
theorem Ai7 {P:Program} {R:Option Nat} {B:Nat} {D0:Ar} {Q:Exit->St->Prop} {c:Bu} (d:Nat) (V0 V:AV) (h:∀(E:Ar) (v:Value),VR E V0 v->VR E V v) (hk:Go P R B D0 Q (c.setT d V)) (hd:Br c.s.t d=V0:=by kernel_rfl):Go P R B D0 Q c:=
 Fw ⟨(d,V)::c.s.t,c.s.h,c.s.nx,c.s.n⟩ (λE a hs=>⟨E,rfl,hs.size,hs.df,λi=>by
  show VR E (Br ((d,V)::c.s.t) i) _
  rw[Hu]
  by_cases hi:d=i
  subst hi
  rw[if_pos rfl]
  have h1:=hs.t d
  rw[hd] at h1
  exact h _ _ h1
  rw[if_neg hi];exact hs.t i,hs.h,hs.A⟩) hk
theorem Ai5 (x y z:AV) (e:Nat) (f:Nat->AV) (E:Ar) (v:Value) (h:VR E (.agg [x,.lit (.slice none 0 0),y,z]) v):VR E (.agg [x,.sl e 0 f,y,z]) v:=by
 cases h with
 |agg _ _ vs hn hr=>
  refine .agg _ _ vs hn λi hi=>?_
  match i,hi with
  |0,_=>exact hr 0 (by simp)
  |1,_=>
   have h1:=hr 1 (by simp)
   have h2:vs.getD 1 undef= .slice none 0 0:=h1.lit_inv
   rw[h2]
   exact .sl0 _ _ _ _ _
  |2,_=>exact hr 2 (by simp)
  |3,_=>exact hr 3 (by simp)
theorem Am7 (w:World):(Op.equal 56 (.agg #[.int .i64 2,.int .i64 0]) (.agg #[.int .i64 2,.int .i64 0])).run Tryz.prog w= .ok true w:=κ
theorem Aic:AF Tryz.prog 13 [.sl 2 1 (Jf 2),.sl 2 1 (Jf 2)] (.bool true):=by
 refine As func13 rfl λB D0 hA0=>?_
 exact Ae 25 (Sv 1 (Ae 15 (Cp [(2,Cw (.sl 2 1 (Jf 2)) 0,.none),(6,Cw (.sl 2 1 (Jf 2)) 0,.none),(8,.bool false,.none)] [0,1,5,25] ⟨Jn 0 1,Jn 0 1,Eb (Qa (dF 56 56 (.tmp 20) (.tmp 24) κ _ _ κ κ κ true Am7) (show (!(true):Bool)=false from rfl)),trivial⟩ (Ae 7 (Cz (.int .i64 1) (.int .i64 1) (Ae 24 (Ck)))))))
theorem Am8 (w:World):(Op.equal 56 (.agg #[.int .i64 3,.int .i64 0]) (.agg #[.int .i64 3,.int .i64 0])).run Tryz.prog w= .ok true w:=κ
theorem Aid:AF Tryz.prog 13 [.sl 2 1 (Jf 3),.sl 2 1 (Jf 3)] (.bool true):=by
 refine As func13 rfl λB D0 hA0=>?_
 exact Ae 25 (Sv 1 (Ae 15 (Cp [(2,Cw (.sl 2 1 (Jf 3)) 0,.none),(6,Cw (.sl 2 1 (Jf 3)) 0,.none),(8,.bool false,.none)] [0,1,5,25] ⟨Jn 0 1,Jn 0 1,Eb (Qa (dF 56 56 (.tmp 20) (.tmp 24) κ _ _ κ κ κ true Am8) (show (!(true):Bool)=false from rfl)),trivial⟩ (Ae 7 (Cz (.int .i64 1) (.int .i64 1) (Ae 24 (Ck)))))))
theorem Am9 (w:World):(Op.equal 56 (.agg #[.int .i64 4,.int .i64 0]) (.agg #[.int .i64 4,.int .i64 0])).run Tryz.prog w= .ok true w:=κ
theorem Aie:AF Tryz.prog 13 [.sl 2 1 (Jf 4),.sl 2 1 (Jf 4)] (.bool true):=by
 refine As func13 rfl λB D0 hA0=>?_
 exact Ae 25 (Sv 1 (Ae 15 (Cp [(2,Cw (.sl 2 1 (Jf 4)) 0,.none),(6,Cw (.sl 2 1 (Jf 4)) 0,.none),(8,.bool false,.none)] [0,1,5,25] ⟨Jn 0 1,Jn 0 1,Eb (Qa (dF 56 56 (.tmp 20) (.tmp 24) κ _ _ κ κ κ true Am9) (show (!(true):Bool)=false from rfl)),trivial⟩ (Ae 7 (Cz (.int .i64 1) (.int .i64 1) (Ae 24 (Ck)))))))
theorem mQ:AF Tryz.prog 16 [] (.tup [Gm Zi,pmA 500]):=by
 refine As func16 rfl λB D0 hA0=>?_
 refine Ae 8 (Kb 2 9 1 1 (λxi=> .lit (.string (Zi.names.getD xi ByteArray.empty))) ?_)
 refine Ae 1 (Kb 3 79 3 1 (λxi=>Bf (Zi.homes.getD xi V3.zero)) ?_)
 refine Ae 2 (Kb 4 81 6 1 (λxi=>mvA ((Zi.acts.getD 0 Ac.none).moves.getD xi Mv.none)) ?_)
 refine iM 4 [9] 81 6 1 (λxi=>mvA ((Zi.acts.getD 0 Ac.none).moves.getD xi Mv.none)) (Ce λ_ _=>rfl) (Ae 1 (Kb 5 51 3 1 (λxi=>Amk (Zi.acts.getD xi Ac.none)) ?_))
 refine Ae 5 (Al3 2 6 0 9 1 1 (λxi=> .lit (.string (Zi.names.getD xi ByteArray.empty))) (Ce λ_ _=>rfl) (Al3 3 6 1 79 3 1 (λxi=>Bf (Zi.homes.getD xi V3.zero)) (Ce λ_ _=>rfl) (Al3 5 6 2 51 3 1 (λxi=>Amk (Zi.acts.getD xi Ac.none)) (Ce λ_ _=>rfl) (Ae 6 (Kb 7 79 3 4 (λxi=>Bf (Ut.f xi)) ?_)))))
 refine Ae 1 (Ai7 18 (.agg [.osl 7 3 4,.lit (.slice none 0 0),.int 0,.int 500]) (.agg [.osl 7 3 4,hsA (Fc 500),.int 0,.int 500]) (Ai5 _ _ _ _ _) ?_)
 exact Ae 4 (Al3 7 8 0 79 3 4 (λxi=>Bf (Ut.f xi)) (Ce λ_ _=>rfl) (Ae 1 (Cp [] [0,1] trivial (Ae 2 (Ck)))))
structure Pm where
 area:Mi
 fr:Int
 til:Int
 craft:Int
abbrev Fk (x:Pm):AV:= .agg [Cd x.area.o,hsA x.area,.int x.area.low,.int x.area.high,.int x.fr,.int x.til,.int x.craft]
structure wY (x:Pm):Prop where
 ok:Zh x.area
 fr:Cj x.fr
 til:Cj x.til
 craft:Cj x.craft
def pmT (x:Pm):Prop:=0<=x.fr/\x.fr<x.til/\x.til<=86400000/\1<=x.craft/\x.craft<=64
instance (x:Pm):Decidable (pmT x):=by unfold pmT;infer_instance
noncomputable def jD (x:Pm):Bool:=gB (Mn x.area)&&decide (pmT x)
theorem tZ {x:Pm} (h:gB (Mn x.area)=false):false=jD x:=by unfold jD;rw[h];rfl
theorem aE {x:Pm} (h:¬pmT x):false=jD x:=by unfold jD;rw[decide_eq_false h,Bool.and_false]
theorem Abp {x:Pm} {p:Prop} [Decidable p] (h:gB (Mn x.area)=true) (hp:p↔pmT x):decide p=jD x:=by unfold jD;rw[h,Bool.true_and];exact decide_eq_decide.2 hp
theorem Oh (x:Pm) (hx:wY x):AF Tryz.prog 9 [Fk x] (.bool (jD x)):=by
 have h1:=hx.fr
 have h2:=hx.til
 have h3:=hx.craft
 unfold Cj at h1 h2 h3
 have hw:Ai (x.til-1)=x.til-1\/x.til= -9223372036854775808:=(Classical.em (x.til= -9223372036854775808)).elim .inr λh=> .inl (IntWalk.i64_in _ ω)
 refine As func9 rfl λB D0 hA0=>?_
 refine Ae 10 (Ao (Ql x.area hx.ok) (Ae 1 (vsb 6 (gB (Mn x.area)) (λhx1=>?_) (λhx1=>?_))))
 ·
  refine Ae 4 (Cz (.int .i64 (Ai (x.til-1))) (.int .i64 (Ai (x.til-1))) (Ao (Mx x.fr 0 (Ai (x.til-1))) (Ae 2 (Gp 14 ((0:Int)<=x.fr/\x.fr<=(Ai (x.til-1))) (λhx2 hx2d=>?_) (λhx2 hx2d=>?_)))))
  ·
   refine Ae 2 (Ao (Mx x.til 1 86400000) (Ae 2 (Gp 19 ((1:Int)<=x.til/\x.til<=(86400000:Int)) (λhx3 hx3d=>?_) (λhx3 hx3d=>?_))))
   ·
    exact Ae 2 (Ao (Mx x.craft 1 64) (Ae 5 (Fd (.bool (decide ((1:Int)<=x.craft/\x.craft<=(64:Int)))) (congrArg AV.bool (Abp hx1 (by unfold pmT;omega))))))
   ·
    exact Ae 8 (Fd (.bool false) (congrArg AV.bool (aE (by unfold pmT;omega))))
  ·
   exact Ae 13 (Fd (.bool false) (congrArg AV.bool (aE (by unfold pmT;omega))))
 ·
  exact Ae 21 (Fd (.bool false) (congrArg AV.bool (tZ hx1)))
abbrev Dn (x:Int×Int):AV:= .lit (.agg #[.int .i64 x.1,.int .i64 x.2])
abbrev lkV (L:List (Int×Int)):AV:= .sl 2 L.length λi=>Dn (L.getD i (0,0))
def It (l:List (Int×Int)) (f:Nat->Bool):Nat->List (Int×Int)
 |0=>l
 |i+1=>if f i=true then It l f i++[(4,(i:Int))] else It l f i
theorem Ch {l:List (Int×Int)} {f:Nat->Bool} {i:Nat} (h:f i=true):It l f (i+1)=It l f i++[(4,(i:Int))]:=if_pos h
theorem Jg {l:List (Int×Int)} {f:Nat->Bool} {i:Nat} (h:f i=false):It l f (i+1)=It l f i:=if_neg (by rw[h];decide)
theorem Gy (l:List (Int×Int)) (e:Int×Int) (i:Nat):(l++[e]).getD i (0,0)=if i<l.length then l.getD i (0,0) else if i=l.length then e else (0,0):=by
 simp only[Γ]
 split
 rename_i h;rw[List.getElem?_append_left h]
 rename_i h
 rw[List.getElem?_append_right ω]
 split
 rename_i h2;rw[h2,Nat.sub_self];rfl
 rename_i h2;rw[List.getElem?_eq_none (by simp;omega)];rfl
noncomputable abbrev lkI (x:Pm) (p:Pr) (i:Nat):Value:=Gi x.area (Fn p p.acts.length i)
noncomputable def Ir (x:Pm) (p:Pr) (i:Nat):Bool:= !(decide (gI (gT (lkI x p i) 1)=0))|| !(gB (gT (lkI x p i) 0))
theorem Mf {x:Pm} {p:Pr} {i:Nat} (h:decide (gI (gT (lkI x p i) 1)=0)=false):Ir x p i=true:=by unfold Ir;rw[h];rfl
theorem Me {x:Pm} {p:Pr} {i:Nat} (h:decide (gI (gT (lkI x p i) 1)=0)=true) (h2:gB (gT (lkI x p i) 0)=false):Ir x p i=true:=by unfold Ir;rw[h,h2];rfl
theorem Py {x:Pm} {p:Pr} {i:Nat} (h:decide (gI (gT (lkI x p i) 1)=0)=true) (h2:gB (gT (lkI x p i) 0)=true):Ir x p i=false:=by unfold Ir;rw[h,h2];rfl
def iV (x:Pm) (p:Pr) (st:Int):List (Int×Int):=(if x.craft<(p.names.length:Int) then [(1,0)] else [])++(if st<x.fr then [(2,0)] else [])++(if x.til<st+Dt p.acts p.acts.length then [(3,0)] else [])
noncomputable def oP (x:Pm) (p:Pr) (st:Int):List (Int×Int):=It (iV x p st) (Ir x p) p.names.length
theorem yQ {L L':List (Int×Int)} {n:Nat} (h:L'=L) (hn:n=L.length):(.tup [.sl 2 n λxi=>Dn (L.getD xi (0,0)),.int 0]:AV)= .tup [lkV L',.int 0]:=by subst h hn;rfl
theorem Ai6 (e:Nat) (f:Nat->AV) (E:Ar) (v:Value) (h:VR E (.lit (.slice none 0 0)) v):VR E (.sl e 0 f) v:=by
 have h2:v= .slice none 0 0:=h.lit_inv
 rw[h2]
 exact .sl0 _ _ _ _ _
def fR:Nat->Code->Code
 |n+1,.seq _ y=>fR n y
 |_,c=>c
def oH:Code->Code
 | .seq x _=>x
 |c=>c
def Jd (f:Func) (m:Nat):Code:=match f.body with|some c=>fR m c|none=> .skip
theorem Lc {P:Program} {R:Option Nat} {B:Nat} {D0:Ar} {Q:Exit->St->Prop} {c:Bu} (keep:List Nat) (ρ:List (Nat×Nat)) (nx k0:Nat) (hA0:∀id,D0.A id->id<k0) (L:xD) (hfl:kZ L) {c':Bu} (h:Go P R B D0 Q c') (hv:bN c.s.h=L:=by kernel_rfl) (hc:(⟨c.m,c.k,⟨mapT (Vr ρ) (Ke keep c.s).t,zJ ρ c.s.h,nx,c.s.n⟩⟩:Bu)=c':=by kernel_rfl) (hd:Km (ρ.map (·.2))=true:=by kernel_rfl) (hd1:Km (ρ.map (·.1))=true:=by kernel_rfl) (hl:(ρ.all λp=>(Aq c.s.h p.1).isSome&&Nat.blt p.2 nx)=true:=by kernel_rfl) (hk0:(Nat.ble k0 nx&&ρ.all λp=>Nat.beq p.1 p.2||Nat.ble k0 p.2)=true:=by kernel_rfl):Go P R B D0 Q c:=by
 subst hc
 exact Fw _ (Hv.trans (Ha keep c.s) λE a hs'=>dK (s:=Ke keep c.s) ρ nx k0 hA0 _ rfl hd hd1 hl hk0 (No hv hfl) E a hs') h
theorem wG (x:Pm) (p:Pr) (st:Int) (hx:wY x) (hp:Vq p) (hE:Gv) (hv:jD x=true) (h:De p=true) (hs:0<=st/\st<=86400000) (hk:0<p.acts.length):AF Tryz.prog 8 [Fk x,Gm p,.int st] (.tup [lkV (oP x p st),.int 0]):=by
 have ho:=Od h
 have hT:=ho.ends p.acts.length ζ
 have hpn:=ho.n1
 refine As func8 rfl λB D0 hA0=>?_
 have tail0:([]:List (Int×Int))=iV x p st->Go Tryz.prog none B D0 (QF Tryz.prog B D0 Tryz.f8 (.tup [lkV (oP x p st),.int 0])) ⟨.code (Jd Tryz.f8 5),[],⟨[(3,.ptr 0 0),(4,.ptr 1 0),(10,.lit (.slice none 0 0))],[(0,.box 27 [Cd x.area.o,hsA x.area,.lit (.int .i64 x.area.low),.lit (.int .i64 x.area.high),.lit (.int .i64 x.fr),.lit (.int .i64 x.til),.lit (.int .i64 x.craft)]),(1,.box 31 [Dh p.names,Fg p.homes,Eu p.acts])],2,99⟩⟩:=by
   intro hL
   refine Ae 3 (Ao (Rh p hp h hk) (Ae 16 (vlp [3,10,72,73,74] (λm s=>∃q n,q<=p.names.length/\m=p.names.length-q/\(n=(It ([]:List (Int×Int)) (Ir x p) q).length/\n<=3+q)/\(((n=0)/\s=⟨[(3,.ptr 0 0),(10,.lit (.slice none 0 0)),(72,.sl 1 p.names.length (λi0=>Ga (Fn p p.acts.length i0))),(73,.int (p.names.length:Int)),(74,.int (q:Int))],[(0,.box 27 [Cd x.area.o,hsA x.area,.int x.area.low,.int x.area.high,.int x.fr,.int x.til,.int x.craft]),(1,.box 31 [Dh p.names,Fg p.homes,Eu p.acts])],2,99⟩)\/((0<n)/\s=⟨[(3,.ptr 0 0),(10,.osl 50 2 n),(72,.sl 1 p.names.length (λi0=>Ga (Fn p p.acts.length i0))),(73,.int (p.names.length:Int)),(74,.int (q:Int))],[(0,.box 27 [Cd x.area.o,hsA x.area,.int x.area.low,.int x.area.high,.int x.fr,.int x.til,.int x.craft]),(1,.box 31 [Dh p.names,Fg p.homes,Eu p.acts]),(50,.vec 56 2 n (λxi=>Dn ((It ([]:List (Int×Int)) (Ir x p) q).getD xi (0,0))))],51,99⟩))) p.names.length ⟨0,0,Nat.zero_le _,rfl,⟨rfl,ω⟩,(.inl ⟨rfl,κ⟩)⟩ ?_)))
   rintro _ _ ⟨q,n,hqn,rfl,hFq,(⟨hq0,rfl⟩|⟨hq0,rfl⟩)⟩ J1 hJ1
   ·
    refine Ae 6 (Gp 75 ((q:Int)<(p.names.length:Int)) (λhx201 hx201d=>?_) (λhx201 hx201d=>?_))
    ·
     refine Ae 8 (Gu q p.names.length (Ae 10 (Ao (Kn x.area (Fn p p.acts.length q) ⟨hE,hx.ok,(aC h hk ω).pin⟩) (Ae 12 (pX 88 ((gI (gT (Gi x.area (Fn p p.acts.length q)) 1))=0) (λhx202 hx202d=>?_) (λhx202 hx202d=>?_))))))
     ·
      refine Ae 5 (cI 91 (gB (gT (Gi x.area (Fn p p.acts.length q)) 0)) (λhx203=>?_) (λhx203=>?_))
      ·
       exact Ae 5 (Cv ((q:Int)+1) ((q+1:Nat):Int) (Ae 2 (qA [3,10,72,73,74] (hJ1 _ _ (by omega:p.names.length-(q+1)<p.names.length-q) ⟨q+1,0,ω,rfl,⟨by rw[Jg (Py hx202 hx203)];omega,ω⟩,(.inl ⟨ω,rfl⟩)⟩))))
      ·
       refine Ae 5 (Kb 2 56 2 1 (λ_=> .lit (.agg #[.int .i64 4,.int .i64 (q:Int)])) ?_)
       refine Wz 16 56 56 2 1 2 3 (λ_=> .lit (.agg #[.int .i64 4,.int .i64 (q:Int)])) (λxi=>Dn ((It ([]:List (Int×Int)) (Ir x p) (q+1)).getD xi (0,0))) (λi hi=>by(obtain rfl:i=0:=(ω));show Dn _=Dn (4,(q:Int));rw[Ch (Me hx202 hx203),Gy,if_neg ω,if_pos ω]) ?_
       exact Ae 5 (Cv ((q:Int)+1) ((q+1:Nat):Int) (Ae 2 (Ki [3,10,72,73,74] [(0,0),(1,1),(3,50)] 51 0 hA0 [(56,2,1,(λ_=> .lit (.agg #[.int .i64 4,.int .i64 (q:Int)]))),(56,2,1,(λxi=>Dn ((It ([]:List (Int×Int)) (Ir x p) (q+1)).getD xi (0,0))))] ⟨(Ce λ_ _=>rfl),(Ce λ_ _=>rfl),trivial⟩ (hJ1 _ _ (by omega:p.names.length-(q+1)<p.names.length-q) ⟨q+1,1,ω,rfl,⟨by rw[Ch (Me hx202 hx203),List.length_append,List.length_singleton];omega,ω⟩,(.inr ⟨ω,rfl⟩)⟩))))
     ·
      refine Ae 10 (Kb 2 56 2 1 (λ_=> .lit (.agg #[.int .i64 4,.int .i64 (q:Int)])) ?_)
      refine Wz 16 56 56 2 1 2 3 (λ_=> .lit (.agg #[.int .i64 4,.int .i64 (q:Int)])) (λxi=>Dn ((It ([]:List (Int×Int)) (Ir x p) (q+1)).getD xi (0,0))) (λi hi=>by(obtain rfl:i=0:=(ω));show Dn _=Dn (4,(q:Int));rw[Ch (Mf hx202),Gy,if_neg ω,if_pos ω]) ?_
      exact Ae 5 (Cv ((q:Int)+1) ((q+1:Nat):Int) (Ae 2 (Ki [3,10,72,73,74] [(0,0),(1,1),(3,50)] 51 0 hA0 [(56,2,1,(λ_=> .lit (.agg #[.int .i64 4,.int .i64 (q:Int)]))),(56,2,1,(λxi=>Dn ((It ([]:List (Int×Int)) (Ir x p) (q+1)).getD xi (0,0))))] ⟨(Ce λ_ _=>rfl),(Ce λ_ _=>rfl),trivial⟩ (hJ1 _ _ (by omega:p.names.length-(q+1)<p.names.length-q) ⟨q+1,1,ω,rfl,⟨by rw[Ch (Mf hx202),List.length_append,List.length_singleton];omega,ω⟩,(.inr ⟨ω,rfl⟩)⟩))))
    ·
     refine Ae 8 (Ai7 10 (.lit (.slice none 0 0)) (.sl 2 0 (λxi=>Dn ((It ([]:List (Int×Int)) (Ir x p) q).getD xi (0,0)))) (Ai6 _ _) ?_)
     exact Ae 6 (Fd (.tup [.sl 2 0 (λxi=>Dn ((It ([]:List (Int×Int)) (Ir x p) q).getD xi (0,0))),.int 0]) (yQ (by unfold oP;rw[<-hL,<-show q=p.names.length by omega]) ω))
   ·
    refine Ae 6 (Gp 75 ((q:Int)<(p.names.length:Int)) (λhx204 hx204d=>?_) (λhx204 hx204d=>?_))
    ·
     refine Ae 8 (Gu q p.names.length (Ae 10 (Ao (Kn x.area (Fn p p.acts.length q) ⟨hE,hx.ok,(aC h hk ω).pin⟩) (Ae 12 (pX 88 ((gI (gT (Gi x.area (Fn p p.acts.length q)) 1))=0) (λhx205 hx205d=>?_) (λhx205 hx205d=>?_))))))
     ·
      refine Ae 5 (cI 91 (gB (gT (Gi x.area (Fn p p.acts.length q)) 0)) (λhx206=>?_) (λhx206=>?_))
      ·
       exact Ae 5 (Cv ((q:Int)+1) ((q+1:Nat):Int) (Ae 2 (Xc 50 56 2 n (λxi=>Dn ((It ([]:List (Int×Int)) (Ir x p) q).getD xi (0,0))) (λxi=>Dn ((It ([]:List (Int×Int)) (Ir x p) (q+1)).getD xi (0,0))) (λx9 hx9=>by rw[Jg (Py hx205 hx206)]) (qA [3,10,72,73,74] (hJ1 _ _ (by omega:p.names.length-(q+1)<p.names.length-q) ⟨q+1,n,ω,rfl,⟨by rw[Jg (Py hx205 hx206)];omega,ω⟩,(.inr ⟨ω,rfl⟩)⟩)))))
      ·
       refine Ae 5 (Kb 51 56 2 1 (λ_=> .lit (.agg #[.int .i64 4,.int .i64 (q:Int)])) ?_)
       refine Mt 16 56 56 2 n 1 50 51 52 (λxi=>Dn ((It ([]:List (Int×Int)) (Ir x p) q).getD xi (0,0))) (λ_=> .lit (.agg #[.int .i64 4,.int .i64 (q:Int)])) (λxi=>Dn ((It ([]:List (Int×Int)) (Ir x p) (q+1)).getD xi (0,0))) (λi hi=>by show Dn _=Dn _;rw[Ch (Me hx205 hx206),Gy,if_pos ω]) (λi hi=>by(obtain rfl:i=0:=(ω));show Dn _=Dn (4,(q:Int));rw[Ch (Me hx205 hx206),Gy,if_neg ω,if_pos ω]) ?_
       exact Ae 5 (Cv ((q:Int)+1) ((q+1:Nat):Int) (Ae 2 (Ki [3,10,72,73,74] [(0,0),(1,1),(52,50)] 51 0 hA0 [(56,2,1,(λ_=> .lit (.agg #[.int .i64 4,.int .i64 (q:Int)]))),(56,2,n+1,(λxi=>Dn ((It ([]:List (Int×Int)) (Ir x p) (q+1)).getD xi (0,0))))] ⟨(Ce λ_ _=>rfl),(Ce λ_ _=>rfl),trivial⟩ (hJ1 _ _ (by omega:p.names.length-(q+1)<p.names.length-q) ⟨q+1,n+1,ω,rfl,⟨by rw[Ch (Me hx205 hx206),List.length_append,List.length_singleton];omega,ω⟩,(.inr ⟨ω,rfl⟩)⟩))))
     ·
      refine Ae 10 (Kb 51 56 2 1 (λ_=> .lit (.agg #[.int .i64 4,.int .i64 (q:Int)])) ?_)
      refine Mt 16 56 56 2 n 1 50 51 52 (λxi=>Dn ((It ([]:List (Int×Int)) (Ir x p) q).getD xi (0,0))) (λ_=> .lit (.agg #[.int .i64 4,.int .i64 (q:Int)])) (λxi=>Dn ((It ([]:List (Int×Int)) (Ir x p) (q+1)).getD xi (0,0))) (λi hi=>by show Dn _=Dn _;rw[Ch (Mf hx205),Gy,if_pos ω]) (λi hi=>by(obtain rfl:i=0:=(ω));show Dn _=Dn (4,(q:Int));rw[Ch (Mf hx205),Gy,if_neg ω,if_pos ω]) ?_
      exact Ae 5 (Cv ((q:Int)+1) ((q+1:Nat):Int) (Ae 2 (Ki [3,10,72,73,74] [(0,0),(1,1),(52,50)] 51 0 hA0 [(56,2,1,(λ_=> .lit (.agg #[.int .i64 4,.int .i64 (q:Int)]))),(56,2,n+1,(λxi=>Dn ((It ([]:List (Int×Int)) (Ir x p) (q+1)).getD xi (0,0))))] ⟨(Ce λ_ _=>rfl),(Ce λ_ _=>rfl),trivial⟩ (hJ1 _ _ (by omega:p.names.length-(q+1)<p.names.length-q) ⟨q+1,n+1,ω,rfl,⟨by rw[Ch (Mf hx205),List.length_append,List.length_singleton];omega,ω⟩,(.inr ⟨ω,rfl⟩)⟩))))
    ·
     exact Ae 13 (iM 50 [6] 56 2 n (λxi=>Dn ((It ([]:List (Int×Int)) (Ir x p) q).getD xi (0,0))) (Ce λ_ _=>rfl) (Ae 1 (Fd (.tup [.sl 2 n (λxi=>Dn ((It ([]:List (Int×Int)) (Ir x p) q).getD xi (0,0))),.int 0]) (yQ (by unfold oP;rw[<-hL,<-show q=p.names.length by omega]) ω))))
 have tail1:∀L:List (Int×Int),L=iV x p st->0<L.length->L.length<=3->Go Tryz.prog none B D0 (QF Tryz.prog B D0 Tryz.f8 (.tup [lkV (oP x p st),.int 0])) ⟨.code (Jd Tryz.f8 5),[],⟨[(3,.ptr 0 0),(4,.ptr 1 0),(10,.osl 2 2 L.length)],[(0,.box 27 [Cd x.area.o,hsA x.area,.lit (.int .i64 x.area.low),.lit (.int .i64 x.area.high),.lit (.int .i64 x.fr),.lit (.int .i64 x.til),.lit (.int .i64 x.craft)]),(1,.box 31 [Dh p.names,Fg p.homes,Eu p.acts]),(2,.vec 56 2 L.length (λxi=>Dn (L.getD xi (0,0))))],3,99⟩⟩:=by
   intro L hL hL0 hL3
   refine Ae 3 (Ao (Rh p hp h hk) (Ae 16 (Xc 2 56 2 L.length (λxi=>Dn (L.getD xi (0,0))) (λxi=>Dn ((It L (Ir x p) 0).getD xi (0,0))) (λx9 hx9=>rfl) (vlp [3,10,72,73,74] (λm s=>∃q n,q<=p.names.length/\m=p.names.length-q/\(n=(It L (Ir x p) q).length/\n<=3+q)/\((0<n)/\s=⟨[(3,.ptr 0 0),(10,.osl 2 2 n),(72,.sl 1 p.names.length (λi0=>Ga (Fn p p.acts.length i0))),(73,.int (p.names.length:Int)),(74,.int (q:Int))],[(0,.box 27 [Cd x.area.o,hsA x.area,.int x.area.low,.int x.area.high,.int x.fr,.int x.til,.int x.craft]),(1,.box 31 [Dh p.names,Fg p.homes,Eu p.acts]),(2,.vec 56 2 n (λxi=>Dn ((It L (Ir x p) q).getD xi (0,0))))],3,99⟩)) p.names.length ⟨0,L.length,Nat.zero_le _,rfl,⟨rfl,ω⟩,⟨ω,κ⟩⟩ ?_))))
   rintro _ _ ⟨q,n,hqn,rfl,hFq,(⟨hq0,rfl⟩)⟩ J1 hJ1
   ·
    refine Ae 6 (Gp 75 ((q:Int)<(p.names.length:Int)) (λhx101 hx101d=>?_) (λhx101 hx101d=>?_))
    ·
     refine Ae 8 (Gu q p.names.length (Ae 10 (Ao (Kn x.area (Fn p p.acts.length q) ⟨hE,hx.ok,(aC h hk ω).pin⟩) (Ae 12 (pX 88 ((gI (gT (Gi x.area (Fn p p.acts.length q)) 1))=0) (λhx102 hx102d=>?_) (λhx102 hx102d=>?_))))))
     ·
      refine Ae 5 (cI 91 (gB (gT (Gi x.area (Fn p p.acts.length q)) 0)) (λhx103=>?_) (λhx103=>?_))
      ·
       exact Ae 5 (Cv ((q:Int)+1) ((q+1:Nat):Int) (Ae 2 (Xc 2 56 2 n (λxi=>Dn ((It L (Ir x p) q).getD xi (0,0))) (λxi=>Dn ((It L (Ir x p) (q+1)).getD xi (0,0))) (λx9 hx9=>by rw[Jg (Py hx102 hx103)]) (qA [3,10,72,73,74] (hJ1 _ _ (by omega:p.names.length-(q+1)<p.names.length-q) ⟨q+1,n,ω,rfl,⟨by rw[Jg (Py hx102 hx103)];omega,ω⟩,⟨ω,rfl⟩⟩)))))
      ·
       refine Ae 5 (Kb 3 56 2 1 (λ_=> .lit (.agg #[.int .i64 4,.int .i64 (q:Int)])) ?_)
       refine Mt 16 56 56 2 n 1 2 3 4 (λxi=>Dn ((It L (Ir x p) q).getD xi (0,0))) (λ_=> .lit (.agg #[.int .i64 4,.int .i64 (q:Int)])) (λxi=>Dn ((It L (Ir x p) (q+1)).getD xi (0,0))) (λi hi=>by show Dn _=Dn _;rw[Ch (Me hx102 hx103),Gy,if_pos ω]) (λi hi=>by(obtain rfl:i=0:=(ω));show Dn _=Dn (4,(q:Int));rw[Ch (Me hx102 hx103),Gy,if_neg ω,if_pos ω]) ?_
       exact Ae 5 (Cv ((q:Int)+1) ((q+1:Nat):Int) (Ae 2 (Ki [3,10,72,73,74] [(0,0),(1,1),(4,2)] 3 0 hA0 [(56,2,1,(λ_=> .lit (.agg #[.int .i64 4,.int .i64 (q:Int)]))),(56,2,n+1,(λxi=>Dn ((It L (Ir x p) (q+1)).getD xi (0,0))))] ⟨(Ce λ_ _=>rfl),(Ce λ_ _=>rfl),trivial⟩ (hJ1 _ _ (by omega:p.names.length-(q+1)<p.names.length-q) ⟨q+1,n+1,ω,rfl,⟨by rw[Ch (Me hx102 hx103),List.length_append,List.length_singleton];omega,ω⟩,⟨ω,rfl⟩⟩))))
     ·
      refine Ae 10 (Kb 3 56 2 1 (λ_=> .lit (.agg #[.int .i64 4,.int .i64 (q:Int)])) ?_)
      refine Mt 16 56 56 2 n 1 2 3 4 (λxi=>Dn ((It L (Ir x p) q).getD xi (0,0))) (λ_=> .lit (.agg #[.int .i64 4,.int .i64 (q:Int)])) (λxi=>Dn ((It L (Ir x p) (q+1)).getD xi (0,0))) (λi hi=>by show Dn _=Dn _;rw[Ch (Mf hx102),Gy,if_pos ω]) (λi hi=>by(obtain rfl:i=0:=(ω));show Dn _=Dn (4,(q:Int));rw[Ch (Mf hx102),Gy,if_neg ω,if_pos ω]) ?_
      exact Ae 5 (Cv ((q:Int)+1) ((q+1:Nat):Int) (Ae 2 (Ki [3,10,72,73,74] [(0,0),(1,1),(4,2)] 3 0 hA0 [(56,2,1,(λ_=> .lit (.agg #[.int .i64 4,.int .i64 (q:Int)]))),(56,2,n+1,(λxi=>Dn ((It L (Ir x p) (q+1)).getD xi (0,0))))] ⟨(Ce λ_ _=>rfl),(Ce λ_ _=>rfl),trivial⟩ (hJ1 _ _ (by omega:p.names.length-(q+1)<p.names.length-q) ⟨q+1,n+1,ω,rfl,⟨by rw[Ch (Mf hx102),List.length_append,List.length_singleton];omega,ω⟩,⟨ω,rfl⟩⟩))))
    ·
     exact Ae 13 (iM 2 [6] 56 2 n (λxi=>Dn ((It L (Ir x p) q).getD xi (0,0))) (Ce λ_ _=>rfl) (Ae 1 (Fd (.tup [.sl 2 n (λxi=>Dn ((It L (Ir x p) q).getD xi (0,0))),.int 0]) (yQ (by unfold oP;rw[<-hL,<-show q=p.names.length by omega]) ω))))
 refine Ae 14 (Ao (by have h9:=Oh x hx;rwa [hv] at h9) (Ae 8 (Ao (by have h9:=Gg p hp;rwa [h] at h9) (Ae 7 (Ao (Lu st 0 86400000 ω) (Ae 11 (Jb 33 (decide ((p.acts.length:Int)=0)) false (decide_eq_false ω) (Ae 10 (Ao (kB p hp h) (Ae 27 (Cv (st+(Dt p.acts p.acts.length)) (st+(Dt p.acts p.acts.length)) (Ae 8 (Sv 4 (Ae 14 (Cz (.bool false) (.bool false) (Ae 14 (Cz (.int .i64 1) (.int .i64 1) (Ae 17 (Cz (.bool (decide (x.craft<(p.names.length:Int)))) (.bool (decide (x.craft<(p.names.length:Int)))) (Ae 9 (Gp 60 (x.craft<(p.names.length:Int)) (λhx301 hx301d=>?_) (λhx301 hx301d=>?_))))))))))))))))))))))
 ·
  refine Ae 5 (Kb 2 56 2 1 (λ_=> .lit (.agg #[.int .i64 1,.int .i64 0])) ?_)
  refine Wz 16 56 56 2 1 2 3 (λ_=> .lit (.agg #[.int .i64 1,.int .i64 0])) (λ_=> .lit (.agg #[.int .i64 1,.int .i64 0])) (λi hi=>rfl) ?_
  refine Ae 5 (Cz (.int .i64 2) (.int .i64 2) (Ae 17 (Cz (.bool (decide (st<x.fr))) (.bool (decide (st<x.fr))) (Ae 9 (Gp 60 (st<x.fr) (λhx302 hx302d=>?_) (λhx302 hx302d=>?_))))))
  ·
   refine Ae 5 (Kb 4 56 2 1 (λ_=> .lit (.agg #[.int .i64 2,.int .i64 0])) ?_)
   refine Mt 16 56 56 2 1 1 3 4 5 (λ_=> .lit (.agg #[.int .i64 1,.int .i64 0])) (λ_=> .lit (.agg #[.int .i64 2,.int .i64 0])) (λxi=>if xi<1 then (λ_=> .lit (.agg #[.int .i64 1,.int .i64 0])) xi else (λ_=> .lit (.agg #[.int .i64 2,.int .i64 0])) (xi-1)) (λi hi=>by simp[hi]) (λi hi=>by simp) ?_
   refine Ae 5 (Cz (.int .i64 3) (.int .i64 3) (Ae 17 (Cz (.bool (decide (x.til<st+(Dt p.acts p.acts.length)))) (.bool (decide (x.til<st+(Dt p.acts p.acts.length)))) (Ae 9 (Gp 60 (x.til<st+(Dt p.acts p.acts.length)) (λhx303 hx303d=>?_) (λhx303 hx303d=>?_))))))
   ·
    refine Ae 5 (Kb 6 56 2 1 (λ_=> .lit (.agg #[.int .i64 3,.int .i64 0])) ?_)
    refine Mt 16 56 56 2 (1+1) 1 5 6 7 (λxi=>if xi<1 then (λ_=> .lit (.agg #[.int .i64 1,.int .i64 0])) xi else (λ_=> .lit (.agg #[.int .i64 2,.int .i64 0])) (xi-1)) (λ_=> .lit (.agg #[.int .i64 3,.int .i64 0])) (λxi=>if xi<1+1 then (λxi=>if xi<1 then (λ_=> .lit (.agg #[.int .i64 1,.int .i64 0])) xi else (λ_=> .lit (.agg #[.int .i64 2,.int .i64 0])) (xi-1)) xi else (λ_=> .lit (.agg #[.int .i64 3,.int .i64 0])) (xi-1+1)) (λi hi=>by simp[hi]) (λi hi=>by simp) ?_
    exact Ae 5 (Cz (.int .i64 4) (.int .i64 4) (Ae 15 (Xc 7 56 2 (1+1+1) (λxi=>if xi<1+1 then (λxi=>if xi<1 then (λ_=> .lit (.agg #[.int .i64 1,.int .i64 0])) xi else (λ_=> .lit (.agg #[.int .i64 2,.int .i64 0])) (xi-1)) xi else (λ_=> .lit (.agg #[.int .i64 3,.int .i64 0])) (xi-1+1)) (λxi=>Dn (([(1,0),(2,0),(3,0)]:List (Int×Int)).getD xi (0,0))) (λx9 hx9=>match x9,hx9 with|0,_=>rfl|1,_=>rfl|2,_=>rfl|_+3,h9=>absurd h9 ω) (Lc [3,4,10] [(0,0),(1,1),(7,2)] 3 0 hA0 [(56,2,1,(λ_=> .lit (.agg #[.int .i64 1,.int .i64 0]))),(56,2,1,(λ_=> .lit (.agg #[.int .i64 2,.int .i64 0]))),(56,2,1,(λ_=> .lit (.agg #[.int .i64 3,.int .i64 0]))),(56,2,1+1+1,(λxi=>Dn (([(1,0),(2,0),(3,0)]:List (Int×Int)).getD xi (0,0))))] ⟨(Ce λ_ _=>rfl),(Ce λ_ _=>rfl),(Ce λ_ _=>rfl),(Ce λ_ _=>rfl),trivial⟩ (tail1 ([(1,0),(2,0),(3,0)]:List (Int×Int)) (by unfold iV;rw[if_pos hx301d,if_pos hx302d,if_pos hx303d];rfl) δ δ)))))
   ·
    exact Ae 5 (Cz (.int .i64 4) (.int .i64 4) (Ae 15 (Xc 5 56 2 (1+1) (λxi=>if xi<1 then (λ_=> .lit (.agg #[.int .i64 1,.int .i64 0])) xi else (λ_=> .lit (.agg #[.int .i64 2,.int .i64 0])) (xi-1)) (λxi=>Dn (([(1,0),(2,0)]:List (Int×Int)).getD xi (0,0))) (λx9 hx9=>match x9,hx9 with|0,_=>rfl|1,_=>rfl|_+2,h9=>absurd h9 ω) (Lc [3,4,10] [(0,0),(1,1),(5,2)] 3 0 hA0 [(56,2,1,(λ_=> .lit (.agg #[.int .i64 1,.int .i64 0]))),(56,2,1,(λ_=> .lit (.agg #[.int .i64 2,.int .i64 0]))),(56,2,1+1,(λxi=>Dn (([(1,0),(2,0)]:List (Int×Int)).getD xi (0,0))))] ⟨(Ce λ_ _=>rfl),(Ce λ_ _=>rfl),(Ce λ_ _=>rfl),trivial⟩ (tail1 ([(1,0),(2,0)]:List (Int×Int)) (by unfold iV;rw[if_pos hx301d,if_pos hx302d,if_neg hx303d];rfl) δ δ)))))
  ·
   refine Ae 5 (Cz (.int .i64 3) (.int .i64 3) (Ae 17 (Cz (.bool (decide (x.til<st+(Dt p.acts p.acts.length)))) (.bool (decide (x.til<st+(Dt p.acts p.acts.length)))) (Ae 9 (Gp 60 (x.til<st+(Dt p.acts p.acts.length)) (λhx304 hx304d=>?_) (λhx304 hx304d=>?_))))))
   ·
    refine Ae 5 (Kb 4 56 2 1 (λ_=> .lit (.agg #[.int .i64 3,.int .i64 0])) ?_)
    refine Mt 16 56 56 2 1 1 3 4 5 (λ_=> .lit (.agg #[.int .i64 1,.int .i64 0])) (λ_=> .lit (.agg #[.int .i64 3,.int .i64 0])) (λxi=>if xi<1 then (λ_=> .lit (.agg #[.int .i64 1,.int .i64 0])) xi else (λ_=> .lit (.agg #[.int .i64 3,.int .i64 0])) (xi-1)) (λi hi=>by simp[hi]) (λi hi=>by simp) ?_
    exact Ae 5 (Cz (.int .i64 4) (.int .i64 4) (Ae 15 (Xc 5 56 2 (1+1) (λxi=>if xi<1 then (λ_=> .lit (.agg #[.int .i64 1,.int .i64 0])) xi else (λ_=> .lit (.agg #[.int .i64 3,.int .i64 0])) (xi-1)) (λxi=>Dn (([(1,0),(3,0)]:List (Int×Int)).getD xi (0,0))) (λx9 hx9=>match x9,hx9 with|0,_=>rfl|1,_=>rfl|_+2,h9=>absurd h9 ω) (Lc [3,4,10] [(0,0),(1,1),(5,2)] 3 0 hA0 [(56,2,1,(λ_=> .lit (.agg #[.int .i64 1,.int .i64 0]))),(56,2,1,(λ_=> .lit (.agg #[.int .i64 3,.int .i64 0]))),(56,2,1+1,(λxi=>Dn (([(1,0),(3,0)]:List (Int×Int)).getD xi (0,0))))] ⟨(Ce λ_ _=>rfl),(Ce λ_ _=>rfl),(Ce λ_ _=>rfl),trivial⟩ (tail1 ([(1,0),(3,0)]:List (Int×Int)) (by unfold iV;rw[if_pos hx301d,if_neg hx302d,if_pos hx304d];rfl) δ δ)))))
   ·
    exact Ae 5 (Cz (.int .i64 4) (.int .i64 4) (Ae 15 (Xc 3 56 2 1 (λ_=> .lit (.agg #[.int .i64 1,.int .i64 0])) (λxi=>Dn (([(1,0)]:List (Int×Int)).getD xi (0,0))) (λx9 hx9=>match x9,hx9 with|0,_=>rfl|_+1,h9=>absurd h9 ω) (Lc [3,4,10] [(0,0),(1,1),(3,2)] 3 0 hA0 [(56,2,1,(λ_=> .lit (.agg #[.int .i64 1,.int .i64 0]))),(56,2,1,(λxi=>Dn (([(1,0)]:List (Int×Int)).getD xi (0,0))))] ⟨(Ce λ_ _=>rfl),(Ce λ_ _=>rfl),trivial⟩ (tail1 ([(1,0)]:List (Int×Int)) (by unfold iV;rw[if_pos hx301d,if_neg hx302d,if_neg hx304d];rfl) δ δ)))))
 ·
  refine Ae 5 (Cz (.int .i64 2) (.int .i64 2) (Ae 17 (Cz (.bool (decide (st<x.fr))) (.bool (decide (st<x.fr))) (Ae 9 (Gp 60 (st<x.fr) (λhx305 hx305d=>?_) (λhx305 hx305d=>?_))))))
  ·
   refine Ae 5 (Kb 2 56 2 1 (λ_=> .lit (.agg #[.int .i64 2,.int .i64 0])) ?_)
   refine Wz 16 56 56 2 1 2 3 (λ_=> .lit (.agg #[.int .i64 2,.int .i64 0])) (λ_=> .lit (.agg #[.int .i64 2,.int .i64 0])) (λi hi=>rfl) ?_
   refine Ae 5 (Cz (.int .i64 3) (.int .i64 3) (Ae 17 (Cz (.bool (decide (x.til<st+(Dt p.acts p.acts.length)))) (.bool (decide (x.til<st+(Dt p.acts p.acts.length)))) (Ae 9 (Gp 60 (x.til<st+(Dt p.acts p.acts.length)) (λhx306 hx306d=>?_) (λhx306 hx306d=>?_))))))
   ·
    refine Ae 5 (Kb 4 56 2 1 (λ_=> .lit (.agg #[.int .i64 3,.int .i64 0])) ?_)
    refine Mt 16 56 56 2 1 1 3 4 5 (λ_=> .lit (.agg #[.int .i64 2,.int .i64 0])) (λ_=> .lit (.agg #[.int .i64 3,.int .i64 0])) (λxi=>if xi<1 then (λ_=> .lit (.agg #[.int .i64 2,.int .i64 0])) xi else (λ_=> .lit (.agg #[.int .i64 3,.int .i64 0])) (xi-1)) (λi hi=>by simp[hi]) (λi hi=>by simp) ?_
    exact Ae 5 (Cz (.int .i64 4) (.int .i64 4) (Ae 15 (Xc 5 56 2 (1+1) (λxi=>if xi<1 then (λ_=> .lit (.agg #[.int .i64 2,.int .i64 0])) xi else (λ_=> .lit (.agg #[.int .i64 3,.int .i64 0])) (xi-1)) (λxi=>Dn (([(2,0),(3,0)]:List (Int×Int)).getD xi (0,0))) (λx9 hx9=>match x9,hx9 with|0,_=>rfl|1,_=>rfl|_+2,h9=>absurd h9 ω) (Lc [3,4,10] [(0,0),(1,1),(5,2)] 3 0 hA0 [(56,2,1,(λ_=> .lit (.agg #[.int .i64 2,.int .i64 0]))),(56,2,1,(λ_=> .lit (.agg #[.int .i64 3,.int .i64 0]))),(56,2,1+1,(λxi=>Dn (([(2,0),(3,0)]:List (Int×Int)).getD xi (0,0))))] ⟨(Ce λ_ _=>rfl),(Ce λ_ _=>rfl),(Ce λ_ _=>rfl),trivial⟩ (tail1 ([(2,0),(3,0)]:List (Int×Int)) (by unfold iV;rw[if_neg hx301d,if_pos hx305d,if_pos hx306d];rfl) δ δ)))))
   ·
    exact Ae 5 (Cz (.int .i64 4) (.int .i64 4) (Ae 15 (Xc 3 56 2 1 (λ_=> .lit (.agg #[.int .i64 2,.int .i64 0])) (λxi=>Dn (([(2,0)]:List (Int×Int)).getD xi (0,0))) (λx9 hx9=>match x9,hx9 with|0,_=>rfl|_+1,h9=>absurd h9 ω) (Lc [3,4,10] [(0,0),(1,1),(3,2)] 3 0 hA0 [(56,2,1,(λ_=> .lit (.agg #[.int .i64 2,.int .i64 0]))),(56,2,1,(λxi=>Dn (([(2,0)]:List (Int×Int)).getD xi (0,0))))] ⟨(Ce λ_ _=>rfl),(Ce λ_ _=>rfl),trivial⟩ (tail1 ([(2,0)]:List (Int×Int)) (by unfold iV;rw[if_neg hx301d,if_pos hx305d,if_neg hx306d];rfl) δ δ)))))
  ·
   refine Ae 5 (Cz (.int .i64 3) (.int .i64 3) (Ae 17 (Cz (.bool (decide (x.til<st+(Dt p.acts p.acts.length)))) (.bool (decide (x.til<st+(Dt p.acts p.acts.length)))) (Ae 9 (Gp 60 (x.til<st+(Dt p.acts p.acts.length)) (λhx307 hx307d=>?_) (λhx307 hx307d=>?_))))))
   ·
    refine Ae 5 (Kb 2 56 2 1 (λ_=> .lit (.agg #[.int .i64 3,.int .i64 0])) ?_)
    refine Wz 16 56 56 2 1 2 3 (λ_=> .lit (.agg #[.int .i64 3,.int .i64 0])) (λ_=> .lit (.agg #[.int .i64 3,.int .i64 0])) (λi hi=>rfl) ?_
    exact Ae 5 (Cz (.int .i64 4) (.int .i64 4) (Ae 15 (Xc 3 56 2 1 (λ_=> .lit (.agg #[.int .i64 3,.int .i64 0])) (λxi=>Dn (([(3,0)]:List (Int×Int)).getD xi (0,0))) (λx9 hx9=>match x9,hx9 with|0,_=>rfl|_+1,h9=>absurd h9 ω) (Lc [3,4,10] [(0,0),(1,1),(3,2)] 3 0 hA0 [(56,2,1,(λ_=> .lit (.agg #[.int .i64 3,.int .i64 0]))),(56,2,1,(λxi=>Dn (([(3,0)]:List (Int×Int)).getD xi (0,0))))] ⟨(Ce λ_ _=>rfl),(Ce λ_ _=>rfl),trivial⟩ (tail1 ([(3,0)]:List (Int×Int)) (by unfold iV;rw[if_neg hx301d,if_neg hx305d,if_pos hx307d];rfl) δ δ)))))
   ·
    exact Ae 5 (Cz (.int .i64 4) (.int .i64 4) (Ae 15 (Lc [3,4,10] [(0,0),(1,1)] 2 0 hA0 [] trivial (tail0 (by unfold iV;rw[if_neg hx301d,if_neg hx305d,if_neg hx307d];rfl)))))
theorem bS (x:Pm) (p:Pr) (st:Int) (hx:wY x) (hp:Vq p) (hv:jD x=true) (h:De p=true) (hs:0<=st/\st<=86400000) (hk:p.acts.length=0):AF Tryz.prog 8 [Fk x,Gm p,.int st] (.lit (.tuple #[.slice none 0 0,.int .i64 9])):=by
 refine As func8 rfl λB D0 hA0=>?_
 exact Ae 14 (Ao (by have h9:=Oh x hx;rwa [hv] at h9) (Ae 8 (Ao (by have h9:=Gg p hp;rwa [h] at h9) (Ae 7 (Ao (Lu st 0 86400000 ω) (Ae 11 (Jb 33 (decide ((p.acts.length:Int)=0)) true (decide_eq_true ω) (Ae 13 (Ck)))))))))
theorem oQ {L L':List (Int×Int)} {n:Nat} (h:L'=L) (hn:n=L.length):(.sl 2 n λxi=>Dn (L.getD xi (0,0)):AV)=lkV L':=by subst h hn;rfl
theorem qP (x:Pm) (hx:wY x):AF Tryz.prog 10 [Fk x] (.bool (jD x)):=by
 refine As func10 rfl λB D0 hA0=>?_
 refine Ae 10 (Ao (Ql x.area hx.ok) (Ae 1 (vsb 6 (gB (Mn x.area)) (λhx1=>?_) (λhx1=>?_))))
 ·
  refine Ae 5 (Gp 11 ((0:Int)<=x.fr) (λhx2 hx2d=>?_) (λhx2 hx2d=>?_))
  ·
   refine Ae 7 (Gp 18 (x.fr<x.til) (λhx3 hx3d=>?_) (λhx3 hx3d=>?_))
   ·
    refine Ae 5 (Gp 23 (x.til<=86400000) (λhx4 hx4d=>?_) (λhx4 hx4d=>?_))
    ·
     refine Ae 5 (Gp 28 ((1:Int)<=x.craft) (λhx5 hx5d=>?_) (λhx5 hx5d=>?_))
     ·
      exact Ae 8 (Fd (.bool (decide (x.craft<=64))) (congrArg AV.bool (Abp hx1 (by unfold pmT;omega))))
     ·
      exact Ae 8 (Fd (.bool false) (congrArg AV.bool (aE (by unfold pmT;omega))))
    ·
     exact Ae 13 (Fd (.bool false) (congrArg AV.bool (aE (by unfold pmT;omega))))
   ·
    exact Ae 18 (Fd (.bool false) (congrArg AV.bool (aE (by unfold pmT;omega))))
  ·
   exact Ae 25 (Fd (.bool false) (congrArg AV.bool (aE (by unfold pmT;omega))))
 ·
  exact Ae 30 (Fd (.bool false) (congrArg AV.bool (tZ hx1)))
theorem qO (x:Pm) (p:Pr) (st:Int) (hx:wY x) (hp:Vq p) (hE:Gv) (h:De p=true) (hs:0<=st/\st<=86400000) (hk:0<p.acts.length):AF Tryz.prog 14 [Fk x,Gm p,.int st] (lkV (oP x p st)):=by
 have ho:=Od h
 have hT:=ho.ends p.acts.length ζ
 have hpn:=ho.n1
 have hpa:=ho.acts
 refine As func14 rfl λB D0 hA0=>?_
 have tail0:([]:List (Int×Int))=iV x p st->Go Tryz.prog none B D0 (QF Tryz.prog B D0 Tryz.f14 (lkV (oP x p st))) ⟨.code (oH (Jd Tryz.f14 5)),[.seq (fR 1 (Jd Tryz.f14 5))],⟨[(3,.ptr 0 0),(4,.ptr 1 0),(7,.lit (.slice none 0 0))],[(0,.box 27 [Cd x.area.o,hsA x.area,.lit (.int .i64 x.area.low),.lit (.int .i64 x.area.high),.lit (.int .i64 x.fr),.lit (.int .i64 x.til),.lit (.int .i64 x.craft)]),(1,.box 31 [Dh p.names,Fg p.homes,Eu p.acts])],2,78⟩⟩:=by
   intro hL
   refine Ae 6 (vlp [3,4,7,8] (λm s=>∃q n,q<=p.names.length/\m=p.names.length-q/\(n=(It ([]:List (Int×Int)) (Ir x p) q).length/\n<=3+q)/\(((n=0)/\s=⟨[(3,.ptr 0 0),(4,.ptr 1 0),(7,.lit (.slice none 0 0)),(8,.int (q:Int))],[(0,.box 27 [Cd x.area.o,hsA x.area,.int x.area.low,.int x.area.high,.int x.fr,.int x.til,.int x.craft]),(1,.box 31 [Dh p.names,Fg p.homes,Eu p.acts])],2,78⟩)\/((0<n)/\s=⟨[(3,.ptr 0 0),(4,.ptr 1 0),(7,.osl 50 2 n),(8,.int (q:Int))],[(0,.box 27 [Cd x.area.o,hsA x.area,.int x.area.low,.int x.area.high,.int x.fr,.int x.til,.int x.craft]),(1,.box 31 [Dh p.names,Fg p.homes,Eu p.acts]),(50,.vec 56 2 n (λxi=>Dn ((It ([]:List (Int×Int)) (Ir x p) q).getD xi (0,0))))],51,78⟩))) p.names.length ⟨0,0,Nat.zero_le _,rfl,⟨rfl,ω⟩,(.inl ⟨rfl,κ⟩)⟩ ?_)
   rintro _ _ ⟨q,n,hqn,rfl,hFq,(⟨hq0,rfl⟩|⟨hq0,rfl⟩)⟩ J1 hJ1
   ·
    refine Ae 10 (Gp 50 ((q:Int)<(p.names.length:Int)) (λhx201 hx201d=>?_) (λhx201 hx201d=>?_))
    ·
     refine Ae 9 (Ao (Th p q hp h ω hk) (Ae 12 (Ao (Kn x.area (Fn p p.acts.length q) ⟨hE,hx.ok,(aC h hk ω).pin⟩) (Ae 12 (pX 68 ((gI (gT (Gi x.area (Fn p p.acts.length q)) 1))=0) (λhx202 hx202d=>?_) (λhx202 hx202d=>?_))))))
     ·
      refine Ae 5 (cI 71 (gB (gT (Gi x.area (Fn p p.acts.length q)) 0)) (λhx203=>?_) (λhx203=>?_))
      ·
       exact Ae 6 (Cv ((q:Int)+1) ((q+1:Nat):Int) (Ae 2 (qA [3,4,7,8] (hJ1 _ _ (by omega:p.names.length-(q+1)<p.names.length-q) ⟨q+1,0,ω,rfl,⟨by rw[Jg (Py hx202 hx203)];omega,ω⟩,(.inl ⟨ω,rfl⟩)⟩))))
      ·
       refine Ae 5 (Kb 2 56 2 1 (λ_=> .lit (.agg #[.int .i64 4,.int .i64 (q:Int)])) ?_)
       refine Wz 16 56 56 2 1 2 3 (λ_=> .lit (.agg #[.int .i64 4,.int .i64 (q:Int)])) (λxi=>Dn ((It ([]:List (Int×Int)) (Ir x p) (q+1)).getD xi (0,0))) (λi hi=>by(obtain rfl:i=0:=(ω));show Dn _=Dn (4,(q:Int));rw[Ch (Me hx202 hx203),Gy,if_neg ω,if_pos ω]) ?_
       exact Ae 6 (Cv ((q:Int)+1) ((q+1:Nat):Int) (Ae 2 (Ki [3,4,7,8] [(0,0),(1,1),(3,50)] 51 0 hA0 [(56,2,1,(λ_=> .lit (.agg #[.int .i64 4,.int .i64 (q:Int)]))),(56,2,1,(λxi=>Dn ((It ([]:List (Int×Int)) (Ir x p) (q+1)).getD xi (0,0))))] ⟨(Ce λ_ _=>rfl),(Ce λ_ _=>rfl),trivial⟩ (hJ1 _ _ (by omega:p.names.length-(q+1)<p.names.length-q) ⟨q+1,1,ω,rfl,⟨by rw[Ch (Me hx202 hx203),List.length_append,List.length_singleton];omega,ω⟩,(.inr ⟨ω,rfl⟩)⟩))))
     ·
      refine Ae 10 (Kb 2 56 2 1 (λ_=> .lit (.agg #[.int .i64 4,.int .i64 (q:Int)])) ?_)
      refine Wz 16 56 56 2 1 2 3 (λ_=> .lit (.agg #[.int .i64 4,.int .i64 (q:Int)])) (λxi=>Dn ((It ([]:List (Int×Int)) (Ir x p) (q+1)).getD xi (0,0))) (λi hi=>by(obtain rfl:i=0:=(ω));show Dn _=Dn (4,(q:Int));rw[Ch (Mf hx202),Gy,if_neg ω,if_pos ω]) ?_
      exact Ae 6 (Cv ((q:Int)+1) ((q+1:Nat):Int) (Ae 2 (Ki [3,4,7,8] [(0,0),(1,1),(3,50)] 51 0 hA0 [(56,2,1,(λ_=> .lit (.agg #[.int .i64 4,.int .i64 (q:Int)]))),(56,2,1,(λxi=>Dn ((It ([]:List (Int×Int)) (Ir x p) (q+1)).getD xi (0,0))))] ⟨(Ce λ_ _=>rfl),(Ce λ_ _=>rfl),trivial⟩ (hJ1 _ _ (by omega:p.names.length-(q+1)<p.names.length-q) ⟨q+1,1,ω,rfl,⟨by rw[Ch (Mf hx202),List.length_append,List.length_singleton];omega,ω⟩,(.inr ⟨ω,rfl⟩)⟩))))
    ·
     refine Ae 8 (Ai7 7 (.lit (.slice none 0 0)) (.sl 2 0 (λxi=>Dn ((It ([]:List (Int×Int)) (Ir x p) q).getD xi (0,0)))) (Ai6 _ _) ?_)
     exact Ae 5 (Fd (.sl 2 0 (λxi=>Dn ((It ([]:List (Int×Int)) (Ir x p) q).getD xi (0,0)))) (oQ (by unfold oP;rw[<-hL,<-show q=p.names.length by omega]) ω))
   ·
    refine Ae 10 (Gp 50 ((q:Int)<(p.names.length:Int)) (λhx204 hx204d=>?_) (λhx204 hx204d=>?_))
    ·
     refine Ae 9 (Ao (Th p q hp h ω hk) (Ae 12 (Ao (Kn x.area (Fn p p.acts.length q) ⟨hE,hx.ok,(aC h hk ω).pin⟩) (Ae 12 (pX 68 ((gI (gT (Gi x.area (Fn p p.acts.length q)) 1))=0) (λhx205 hx205d=>?_) (λhx205 hx205d=>?_))))))
     ·
      refine Ae 5 (cI 71 (gB (gT (Gi x.area (Fn p p.acts.length q)) 0)) (λhx206=>?_) (λhx206=>?_))
      ·
       exact Ae 6 (Cv ((q:Int)+1) ((q+1:Nat):Int) (Ae 2 (Xc 50 56 2 n (λxi=>Dn ((It ([]:List (Int×Int)) (Ir x p) q).getD xi (0,0))) (λxi=>Dn ((It ([]:List (Int×Int)) (Ir x p) (q+1)).getD xi (0,0))) (λx9 hx9=>by rw[Jg (Py hx205 hx206)]) (qA [3,4,7,8] (hJ1 _ _ (by omega:p.names.length-(q+1)<p.names.length-q) ⟨q+1,n,ω,rfl,⟨by rw[Jg (Py hx205 hx206)];omega,ω⟩,(.inr ⟨ω,rfl⟩)⟩)))))
      ·
       refine Ae 5 (Kb 51 56 2 1 (λ_=> .lit (.agg #[.int .i64 4,.int .i64 (q:Int)])) ?_)
       refine Mt 16 56 56 2 n 1 50 51 52 (λxi=>Dn ((It ([]:List (Int×Int)) (Ir x p) q).getD xi (0,0))) (λ_=> .lit (.agg #[.int .i64 4,.int .i64 (q:Int)])) (λxi=>Dn ((It ([]:List (Int×Int)) (Ir x p) (q+1)).getD xi (0,0))) (λi hi=>by show Dn _=Dn _;rw[Ch (Me hx205 hx206),Gy,if_pos ω]) (λi hi=>by(obtain rfl:i=0:=(ω));show Dn _=Dn (4,(q:Int));rw[Ch (Me hx205 hx206),Gy,if_neg ω,if_pos ω]) ?_
       exact Ae 6 (Cv ((q:Int)+1) ((q+1:Nat):Int) (Ae 2 (Ki [3,4,7,8] [(0,0),(1,1),(52,50)] 51 0 hA0 [(56,2,1,(λ_=> .lit (.agg #[.int .i64 4,.int .i64 (q:Int)]))),(56,2,n+1,(λxi=>Dn ((It ([]:List (Int×Int)) (Ir x p) (q+1)).getD xi (0,0))))] ⟨(Ce λ_ _=>rfl),(Ce λ_ _=>rfl),trivial⟩ (hJ1 _ _ (by omega:p.names.length-(q+1)<p.names.length-q) ⟨q+1,n+1,ω,rfl,⟨by rw[Ch (Me hx205 hx206),List.length_append,List.length_singleton];omega,ω⟩,(.inr ⟨ω,rfl⟩)⟩))))
     ·
      refine Ae 10 (Kb 51 56 2 1 (λ_=> .lit (.agg #[.int .i64 4,.int .i64 (q:Int)])) ?_)
      refine Mt 16 56 56 2 n 1 50 51 52 (λxi=>Dn ((It ([]:List (Int×Int)) (Ir x p) q).getD xi (0,0))) (λ_=> .lit (.agg #[.int .i64 4,.int .i64 (q:Int)])) (λxi=>Dn ((It ([]:List (Int×Int)) (Ir x p) (q+1)).getD xi (0,0))) (λi hi=>by show Dn _=Dn _;rw[Ch (Mf hx205),Gy,if_pos ω]) (λi hi=>by(obtain rfl:i=0:=(ω));show Dn _=Dn (4,(q:Int));rw[Ch (Mf hx205),Gy,if_neg ω,if_pos ω]) ?_
      exact Ae 6 (Cv ((q:Int)+1) ((q+1:Nat):Int) (Ae 2 (Ki [3,4,7,8] [(0,0),(1,1),(52,50)] 51 0 hA0 [(56,2,1,(λ_=> .lit (.agg #[.int .i64 4,.int .i64 (q:Int)]))),(56,2,n+1,(λxi=>Dn ((It ([]:List (Int×Int)) (Ir x p) (q+1)).getD xi (0,0))))] ⟨(Ce λ_ _=>rfl),(Ce λ_ _=>rfl),trivial⟩ (hJ1 _ _ (by omega:p.names.length-(q+1)<p.names.length-q) ⟨q+1,n+1,ω,rfl,⟨by rw[Ch (Mf hx205),List.length_append,List.length_singleton];omega,ω⟩,(.inr ⟨ω,rfl⟩)⟩))))
    ·
     exact Ae 12 (iM 50 [6] 56 2 n (λxi=>Dn ((It ([]:List (Int×Int)) (Ir x p) q).getD xi (0,0))) (Ce λ_ _=>rfl) (Ae 1 (Fd (.sl 2 n (λxi=>Dn ((It ([]:List (Int×Int)) (Ir x p) q).getD xi (0,0)))) (oQ (by unfold oP;rw[<-hL,<-show q=p.names.length by omega]) ω))))
 have tail1:∀L:List (Int×Int),L=iV x p st->0<L.length->L.length<=3->Go Tryz.prog none B D0 (QF Tryz.prog B D0 Tryz.f14 (lkV (oP x p st))) ⟨.code (oH (Jd Tryz.f14 5)),[.seq (fR 1 (Jd Tryz.f14 5))],⟨[(3,.ptr 0 0),(4,.ptr 1 0),(7,.osl 2 2 L.length)],[(0,.box 27 [Cd x.area.o,hsA x.area,.lit (.int .i64 x.area.low),.lit (.int .i64 x.area.high),.lit (.int .i64 x.fr),.lit (.int .i64 x.til),.lit (.int .i64 x.craft)]),(1,.box 31 [Dh p.names,Fg p.homes,Eu p.acts]),(2,.vec 56 2 L.length (λxi=>Dn (L.getD xi (0,0))))],3,78⟩⟩:=by
   intro L hL hL0 hL3
   refine Ae 6 (Xc 2 56 2 L.length (λxi=>Dn (L.getD xi (0,0))) (λxi=>Dn ((It L (Ir x p) 0).getD xi (0,0))) (λx9 hx9=>rfl) (vlp [3,4,7,8] (λm s=>∃q n,q<=p.names.length/\m=p.names.length-q/\(n=(It L (Ir x p) q).length/\n<=3+q)/\((0<n)/\s=⟨[(3,.ptr 0 0),(4,.ptr 1 0),(7,.osl 2 2 n),(8,.int (q:Int))],[(0,.box 27 [Cd x.area.o,hsA x.area,.int x.area.low,.int x.area.high,.int x.fr,.int x.til,.int x.craft]),(1,.box 31 [Dh p.names,Fg p.homes,Eu p.acts]),(2,.vec 56 2 n (λxi=>Dn ((It L (Ir x p) q).getD xi (0,0))))],3,78⟩)) p.names.length ⟨0,L.length,Nat.zero_le _,rfl,⟨rfl,ω⟩,⟨ω,κ⟩⟩ ?_))
   rintro _ _ ⟨q,n,hqn,rfl,hFq,(⟨hq0,rfl⟩)⟩ J1 hJ1
   ·
    refine Ae 10 (Gp 50 ((q:Int)<(p.names.length:Int)) (λhx101 hx101d=>?_) (λhx101 hx101d=>?_))
    ·
     refine Ae 9 (Ao (Th p q hp h ω hk) (Ae 12 (Ao (Kn x.area (Fn p p.acts.length q) ⟨hE,hx.ok,(aC h hk ω).pin⟩) (Ae 12 (pX 68 ((gI (gT (Gi x.area (Fn p p.acts.length q)) 1))=0) (λhx102 hx102d=>?_) (λhx102 hx102d=>?_))))))
     ·
      refine Ae 5 (cI 71 (gB (gT (Gi x.area (Fn p p.acts.length q)) 0)) (λhx103=>?_) (λhx103=>?_))
      ·
       exact Ae 6 (Cv ((q:Int)+1) ((q+1:Nat):Int) (Ae 2 (Xc 2 56 2 n (λxi=>Dn ((It L (Ir x p) q).getD xi (0,0))) (λxi=>Dn ((It L (Ir x p) (q+1)).getD xi (0,0))) (λx9 hx9=>by rw[Jg (Py hx102 hx103)]) (qA [3,4,7,8] (hJ1 _ _ (by omega:p.names.length-(q+1)<p.names.length-q) ⟨q+1,n,ω,rfl,⟨by rw[Jg (Py hx102 hx103)];omega,ω⟩,⟨ω,rfl⟩⟩)))))
      ·
       refine Ae 5 (Kb 3 56 2 1 (λ_=> .lit (.agg #[.int .i64 4,.int .i64 (q:Int)])) ?_)
       refine Mt 16 56 56 2 n 1 2 3 4 (λxi=>Dn ((It L (Ir x p) q).getD xi (0,0))) (λ_=> .lit (.agg #[.int .i64 4,.int .i64 (q:Int)])) (λxi=>Dn ((It L (Ir x p) (q+1)).getD xi (0,0))) (λi hi=>by show Dn _=Dn _;rw[Ch (Me hx102 hx103),Gy,if_pos ω]) (λi hi=>by(obtain rfl:i=0:=(ω));show Dn _=Dn (4,(q:Int));rw[Ch (Me hx102 hx103),Gy,if_neg ω,if_pos ω]) ?_
       exact Ae 6 (Cv ((q:Int)+1) ((q+1:Nat):Int) (Ae 2 (Ki [3,4,7,8] [(0,0),(1,1),(4,2)] 3 0 hA0 [(56,2,1,(λ_=> .lit (.agg #[.int .i64 4,.int .i64 (q:Int)]))),(56,2,n+1,(λxi=>Dn ((It L (Ir x p) (q+1)).getD xi (0,0))))] ⟨(Ce λ_ _=>rfl),(Ce λ_ _=>rfl),trivial⟩ (hJ1 _ _ (by omega:p.names.length-(q+1)<p.names.length-q) ⟨q+1,n+1,ω,rfl,⟨by rw[Ch (Me hx102 hx103),List.length_append,List.length_singleton];omega,ω⟩,⟨ω,rfl⟩⟩))))
     ·
      refine Ae 10 (Kb 3 56 2 1 (λ_=> .lit (.agg #[.int .i64 4,.int .i64 (q:Int)])) ?_)
      refine Mt 16 56 56 2 n 1 2 3 4 (λxi=>Dn ((It L (Ir x p) q).getD xi (0,0))) (λ_=> .lit (.agg #[.int .i64 4,.int .i64 (q:Int)])) (λxi=>Dn ((It L (Ir x p) (q+1)).getD xi (0,0))) (λi hi=>by show Dn _=Dn _;rw[Ch (Mf hx102),Gy,if_pos ω]) (λi hi=>by(obtain rfl:i=0:=(ω));show Dn _=Dn (4,(q:Int));rw[Ch (Mf hx102),Gy,if_neg ω,if_pos ω]) ?_
      exact Ae 6 (Cv ((q:Int)+1) ((q+1:Nat):Int) (Ae 2 (Ki [3,4,7,8] [(0,0),(1,1),(4,2)] 3 0 hA0 [(56,2,1,(λ_=> .lit (.agg #[.int .i64 4,.int .i64 (q:Int)]))),(56,2,n+1,(λxi=>Dn ((It L (Ir x p) (q+1)).getD xi (0,0))))] ⟨(Ce λ_ _=>rfl),(Ce λ_ _=>rfl),trivial⟩ (hJ1 _ _ (by omega:p.names.length-(q+1)<p.names.length-q) ⟨q+1,n+1,ω,rfl,⟨by rw[Ch (Mf hx102),List.length_append,List.length_singleton];omega,ω⟩,⟨ω,rfl⟩⟩))))
    ·
     exact Ae 12 (iM 2 [6] 56 2 n (λxi=>Dn ((It L (Ir x p) q).getD xi (0,0))) (Ce λ_ _=>rfl) (Ae 1 (Fd (.sl 2 n (λxi=>Dn ((It L (Ir x p) q).getD xi (0,0)))) (oQ (by unfold oP;rw[<-hL,<-show q=p.names.length by omega]) ω))))
 refine Ae 23 (Gp 18 (x.craft<(p.names.length:Int)) (λhx301 hx301d=>?_) (λhx301 hx301d=>?_))
 ·
  refine Ae 4 (Kb 2 56 2 1 (λ_=> .lit (.agg #[.int .i64 1,.int .i64 0])) ?_)
  refine Wz 16 56 56 2 1 2 3 (λ_=> .lit (.agg #[.int .i64 1,.int .i64 0])) (λ_=> .lit (.agg #[.int .i64 1,.int .i64 0])) (λi hi=>rfl) ?_
  refine Ae 12 (Gp 26 (st<x.fr) (λhx302 hx302d=>?_) (λhx302 hx302d=>?_))
  ·
   refine Ae 4 (Kb 4 56 2 1 (λ_=> .lit (.agg #[.int .i64 2,.int .i64 0])) ?_)
   refine Mt 16 56 56 2 1 1 3 4 5 (λ_=> .lit (.agg #[.int .i64 1,.int .i64 0])) (λ_=> .lit (.agg #[.int .i64 2,.int .i64 0])) (λxi=>if xi<1 then (λ_=> .lit (.agg #[.int .i64 1,.int .i64 0])) xi else (λ_=> .lit (.agg #[.int .i64 2,.int .i64 0])) (xi-1)) (λi hi=>by simp[hi]) (λi hi=>by simp) ?_
   refine Ae 5 (Cp [(5,.int ((p.acts.length-1:Nat):Int),.none),(6,_,.none),(7,.int (st+(Dt p.acts p.acts.length)),.none)] [3,4,7,41] ⟨En (.int .i64 (IntKind.wrap .i64 ((p.acts.length:Int)-1))) η,Be (by have h9:=Xe p hp ho (p.acts.length-1) ω;rwa [show p.acts.length-1+1=p.acts.length by omega] at h9),En (.int .i64 (IntKind.wrap .i64 (st+(Dt p.acts p.acts.length)))) η,trivial⟩ (Ae 1 (Gp 41 (x.til<st+(Dt p.acts p.acts.length)) (λhx303 hx303d=>?_) (λhx303 hx303d=>?_))))
   ·
    refine Ae 4 (Kb 6 56 2 1 (λ_=> .lit (.agg #[.int .i64 3,.int .i64 0])) ?_)
    refine Mt 16 56 56 2 (1+1) 1 5 6 7 (λxi=>if xi<1 then (λ_=> .lit (.agg #[.int .i64 1,.int .i64 0])) xi else (λ_=> .lit (.agg #[.int .i64 2,.int .i64 0])) (xi-1)) (λ_=> .lit (.agg #[.int .i64 3,.int .i64 0])) (λxi=>if xi<1+1 then (λxi=>if xi<1 then (λ_=> .lit (.agg #[.int .i64 1,.int .i64 0])) xi else (λ_=> .lit (.agg #[.int .i64 2,.int .i64 0])) (xi-1)) xi else (λ_=> .lit (.agg #[.int .i64 3,.int .i64 0])) (xi-1+1)) (λi hi=>by simp[hi]) (λi hi=>by simp) ?_
    exact Ae 4 (Xc 7 56 2 (1+1+1) (λxi=>if xi<1+1 then (λxi=>if xi<1 then (λ_=> .lit (.agg #[.int .i64 1,.int .i64 0])) xi else (λ_=> .lit (.agg #[.int .i64 2,.int .i64 0])) (xi-1)) xi else (λ_=> .lit (.agg #[.int .i64 3,.int .i64 0])) (xi-1+1)) (λxi=>Dn (([(1,0),(2,0),(3,0)]:List (Int×Int)).getD xi (0,0))) (λx9 hx9=>match x9,hx9 with|0,_=>rfl|1,_=>rfl|2,_=>rfl|_+3,h9=>absurd h9 ω) (Lc [3,4,7] [(0,0),(1,1),(7,2)] 3 0 hA0 [(56,2,1,(λ_=> .lit (.agg #[.int .i64 1,.int .i64 0]))),(56,2,1,(λ_=> .lit (.agg #[.int .i64 2,.int .i64 0]))),(56,2,1,(λ_=> .lit (.agg #[.int .i64 3,.int .i64 0]))),(56,2,1+1+1,(λxi=>Dn (([(1,0),(2,0),(3,0)]:List (Int×Int)).getD xi (0,0))))] ⟨(Ce λ_ _=>rfl),(Ce λ_ _=>rfl),(Ce λ_ _=>rfl),(Ce λ_ _=>rfl),trivial⟩ (tail1 ([(1,0),(2,0),(3,0)]:List (Int×Int)) (by unfold iV;rw[if_pos hx301d,if_pos hx302d,if_pos hx303d];rfl) δ δ)))
   ·
    exact Ae 4 (Xc 5 56 2 (1+1) (λxi=>if xi<1 then (λ_=> .lit (.agg #[.int .i64 1,.int .i64 0])) xi else (λ_=> .lit (.agg #[.int .i64 2,.int .i64 0])) (xi-1)) (λxi=>Dn (([(1,0),(2,0)]:List (Int×Int)).getD xi (0,0))) (λx9 hx9=>match x9,hx9 with|0,_=>rfl|1,_=>rfl|_+2,h9=>absurd h9 ω) (Lc [3,4,7] [(0,0),(1,1),(5,2)] 3 0 hA0 [(56,2,1,(λ_=> .lit (.agg #[.int .i64 1,.int .i64 0]))),(56,2,1,(λ_=> .lit (.agg #[.int .i64 2,.int .i64 0]))),(56,2,1+1,(λxi=>Dn (([(1,0),(2,0)]:List (Int×Int)).getD xi (0,0))))] ⟨(Ce λ_ _=>rfl),(Ce λ_ _=>rfl),(Ce λ_ _=>rfl),trivial⟩ (tail1 ([(1,0),(2,0)]:List (Int×Int)) (by unfold iV;rw[if_pos hx301d,if_pos hx302d,if_neg hx303d];rfl) δ δ)))
  ·
   refine Ae 5 (Cp [(5,.int ((p.acts.length-1:Nat):Int),.none),(6,_,.none),(7,.int (st+(Dt p.acts p.acts.length)),.none)] [3,4,7,41] ⟨En (.int .i64 (IntKind.wrap .i64 ((p.acts.length:Int)-1))) η,Be (by have h9:=Xe p hp ho (p.acts.length-1) ω;rwa [show p.acts.length-1+1=p.acts.length by omega] at h9),En (.int .i64 (IntKind.wrap .i64 (st+(Dt p.acts p.acts.length)))) η,trivial⟩ (Ae 1 (Gp 41 (x.til<st+(Dt p.acts p.acts.length)) (λhx304 hx304d=>?_) (λhx304 hx304d=>?_))))
   ·
    refine Ae 4 (Kb 4 56 2 1 (λ_=> .lit (.agg #[.int .i64 3,.int .i64 0])) ?_)
    refine Mt 16 56 56 2 1 1 3 4 5 (λ_=> .lit (.agg #[.int .i64 1,.int .i64 0])) (λ_=> .lit (.agg #[.int .i64 3,.int .i64 0])) (λxi=>if xi<1 then (λ_=> .lit (.agg #[.int .i64 1,.int .i64 0])) xi else (λ_=> .lit (.agg #[.int .i64 3,.int .i64 0])) (xi-1)) (λi hi=>by simp[hi]) (λi hi=>by simp) ?_
    exact Ae 4 (Xc 5 56 2 (1+1) (λxi=>if xi<1 then (λ_=> .lit (.agg #[.int .i64 1,.int .i64 0])) xi else (λ_=> .lit (.agg #[.int .i64 3,.int .i64 0])) (xi-1)) (λxi=>Dn (([(1,0),(3,0)]:List (Int×Int)).getD xi (0,0))) (λx9 hx9=>match x9,hx9 with|0,_=>rfl|1,_=>rfl|_+2,h9=>absurd h9 ω) (Lc [3,4,7] [(0,0),(1,1),(5,2)] 3 0 hA0 [(56,2,1,(λ_=> .lit (.agg #[.int .i64 1,.int .i64 0]))),(56,2,1,(λ_=> .lit (.agg #[.int .i64 3,.int .i64 0]))),(56,2,1+1,(λxi=>Dn (([(1,0),(3,0)]:List (Int×Int)).getD xi (0,0))))] ⟨(Ce λ_ _=>rfl),(Ce λ_ _=>rfl),(Ce λ_ _=>rfl),trivial⟩ (tail1 ([(1,0),(3,0)]:List (Int×Int)) (by unfold iV;rw[if_pos hx301d,if_neg hx302d,if_pos hx304d];rfl) δ δ)))
   ·
    exact Ae 4 (Xc 3 56 2 1 (λ_=> .lit (.agg #[.int .i64 1,.int .i64 0])) (λxi=>Dn (([(1,0)]:List (Int×Int)).getD xi (0,0))) (λx9 hx9=>match x9,hx9 with|0,_=>rfl|_+1,h9=>absurd h9 ω) (Lc [3,4,7] [(0,0),(1,1),(3,2)] 3 0 hA0 [(56,2,1,(λ_=> .lit (.agg #[.int .i64 1,.int .i64 0]))),(56,2,1,(λxi=>Dn (([(1,0)]:List (Int×Int)).getD xi (0,0))))] ⟨(Ce λ_ _=>rfl),(Ce λ_ _=>rfl),trivial⟩ (tail1 ([(1,0)]:List (Int×Int)) (by unfold iV;rw[if_pos hx301d,if_neg hx302d,if_neg hx304d];rfl) δ δ)))
 ·
  refine Ae 12 (Gp 26 (st<x.fr) (λhx305 hx305d=>?_) (λhx305 hx305d=>?_))
  ·
   refine Ae 4 (Kb 2 56 2 1 (λ_=> .lit (.agg #[.int .i64 2,.int .i64 0])) ?_)
   refine Wz 16 56 56 2 1 2 3 (λ_=> .lit (.agg #[.int .i64 2,.int .i64 0])) (λ_=> .lit (.agg #[.int .i64 2,.int .i64 0])) (λi hi=>rfl) ?_
   refine Ae 5 (Cp [(5,.int ((p.acts.length-1:Nat):Int),.none),(6,_,.none),(7,.int (st+(Dt p.acts p.acts.length)),.none)] [3,4,7,41] ⟨En (.int .i64 (IntKind.wrap .i64 ((p.acts.length:Int)-1))) η,Be (by have h9:=Xe p hp ho (p.acts.length-1) ω;rwa [show p.acts.length-1+1=p.acts.length by omega] at h9),En (.int .i64 (IntKind.wrap .i64 (st+(Dt p.acts p.acts.length)))) η,trivial⟩ (Ae 1 (Gp 41 (x.til<st+(Dt p.acts p.acts.length)) (λhx306 hx306d=>?_) (λhx306 hx306d=>?_))))
   ·
    refine Ae 4 (Kb 4 56 2 1 (λ_=> .lit (.agg #[.int .i64 3,.int .i64 0])) ?_)
    refine Mt 16 56 56 2 1 1 3 4 5 (λ_=> .lit (.agg #[.int .i64 2,.int .i64 0])) (λ_=> .lit (.agg #[.int .i64 3,.int .i64 0])) (λxi=>if xi<1 then (λ_=> .lit (.agg #[.int .i64 2,.int .i64 0])) xi else (λ_=> .lit (.agg #[.int .i64 3,.int .i64 0])) (xi-1)) (λi hi=>by simp[hi]) (λi hi=>by simp) ?_
    exact Ae 4 (Xc 5 56 2 (1+1) (λxi=>if xi<1 then (λ_=> .lit (.agg #[.int .i64 2,.int .i64 0])) xi else (λ_=> .lit (.agg #[.int .i64 3,.int .i64 0])) (xi-1)) (λxi=>Dn (([(2,0),(3,0)]:List (Int×Int)).getD xi (0,0))) (λx9 hx9=>match x9,hx9 with|0,_=>rfl|1,_=>rfl|_+2,h9=>absurd h9 ω) (Lc [3,4,7] [(0,0),(1,1),(5,2)] 3 0 hA0 [(56,2,1,(λ_=> .lit (.agg #[.int .i64 2,.int .i64 0]))),(56,2,1,(λ_=> .lit (.agg #[.int .i64 3,.int .i64 0]))),(56,2,1+1,(λxi=>Dn (([(2,0),(3,0)]:List (Int×Int)).getD xi (0,0))))] ⟨(Ce λ_ _=>rfl),(Ce λ_ _=>rfl),(Ce λ_ _=>rfl),trivial⟩ (tail1 ([(2,0),(3,0)]:List (Int×Int)) (by unfold iV;rw[if_neg hx301d,if_pos hx305d,if_pos hx306d];rfl) δ δ)))
   ·
    exact Ae 4 (Xc 3 56 2 1 (λ_=> .lit (.agg #[.int .i64 2,.int .i64 0])) (λxi=>Dn (([(2,0)]:List (Int×Int)).getD xi (0,0))) (λx9 hx9=>match x9,hx9 with|0,_=>rfl|_+1,h9=>absurd h9 ω) (Lc [3,4,7] [(0,0),(1,1),(3,2)] 3 0 hA0 [(56,2,1,(λ_=> .lit (.agg #[.int .i64 2,.int .i64 0]))),(56,2,1,(λxi=>Dn (([(2,0)]:List (Int×Int)).getD xi (0,0))))] ⟨(Ce λ_ _=>rfl),(Ce λ_ _=>rfl),trivial⟩ (tail1 ([(2,0)]:List (Int×Int)) (by unfold iV;rw[if_neg hx301d,if_pos hx305d,if_neg hx306d];rfl) δ δ)))
  ·
   refine Ae 5 (Cp [(5,.int ((p.acts.length-1:Nat):Int),.none),(6,_,.none),(7,.int (st+(Dt p.acts p.acts.length)),.none)] [3,4,7,41] ⟨En (.int .i64 (IntKind.wrap .i64 ((p.acts.length:Int)-1))) η,Be (by have h9:=Xe p hp ho (p.acts.length-1) ω;rwa [show p.acts.length-1+1=p.acts.length by omega] at h9),En (.int .i64 (IntKind.wrap .i64 (st+(Dt p.acts p.acts.length)))) η,trivial⟩ (Ae 1 (Gp 41 (x.til<st+(Dt p.acts p.acts.length)) (λhx307 hx307d=>?_) (λhx307 hx307d=>?_))))
   ·
    refine Ae 4 (Kb 2 56 2 1 (λ_=> .lit (.agg #[.int .i64 3,.int .i64 0])) ?_)
    refine Wz 16 56 56 2 1 2 3 (λ_=> .lit (.agg #[.int .i64 3,.int .i64 0])) (λ_=> .lit (.agg #[.int .i64 3,.int .i64 0])) (λi hi=>rfl) ?_
    exact Ae 4 (Xc 3 56 2 1 (λ_=> .lit (.agg #[.int .i64 3,.int .i64 0])) (λxi=>Dn (([(3,0)]:List (Int×Int)).getD xi (0,0))) (λx9 hx9=>match x9,hx9 with|0,_=>rfl|_+1,h9=>absurd h9 ω) (Lc [3,4,7] [(0,0),(1,1),(3,2)] 3 0 hA0 [(56,2,1,(λ_=> .lit (.agg #[.int .i64 3,.int .i64 0]))),(56,2,1,(λxi=>Dn (([(3,0)]:List (Int×Int)).getD xi (0,0))))] ⟨(Ce λ_ _=>rfl),(Ce λ_ _=>rfl),trivial⟩ (tail1 ([(3,0)]:List (Int×Int)) (by unfold iV;rw[if_neg hx301d,if_neg hx305d,if_pos hx307d];rfl) δ δ)))
   ·
    exact Ae 4 (Lc [3,4,7] [(0,0),(1,1)] 2 0 hA0 [] trivial (tail0 (by unfold iV;rw[if_neg hx301d,if_neg hx305d,if_neg hx307d];rfl)))
theorem Ajd:mP Qo Tryz.prog 17 [.int 3723004] (.lit (.tuple #[.string ⟨#[48,49,58,48,50,58,48,51,46,48,48,52]⟩,.int .i64 0])):=by
 have h:=Wc 3723004 δ
 rw[Acy] at h
 exact h
theorem Aje:mP Qo Tryz.prog 17 [.int 86400000] (.lit (.tuple #[.string ⟨#[50,52,58,48,48,58,48,48,46,48,48,48]⟩,.int .i64 0])):=by
 have h:=Wc 86400000 δ
 rw[Acz] at h
 exact h
theorem AhM:Se ⟨#[50,52,58,48,48,58,48,48,46,48,48,49]⟩=none:=by decide+kernel
theorem qE {s:ByteArray} (h:Se s=none):mP Qo Tryz.prog 18 [.lit (.string s)] iQ:=by
 have h2:=AbB s
 rwa [<-Yu h] at h2
theorem Aas {t:Int} (h:0<=t/\t<=86400000):AF Tryz.prog 12 [.int t] (.bool true):=by
 have h2:=qH t
 rwa [decide_eq_true h] at h2
theorem Ajl {t:Int} (h:¬(0<=t/\t<=86400000)):AF Tryz.prog 12 [.int t] (.bool false):=by
 have h2:=qH t
 rwa [decide_eq_false h] at h2
theorem Fi:mP Qo Tryz.prog 7 [] (.bool true):=by
 refine Wm Ks func7 rfl λB D0 hA0 hT=>?_
 refine Ae 7 (Ao mQ (Ae 13 (Ao AmT (Ae 11 (Ao AmU (Ae 11 (Ao AmV (Ae 18 (Ao AmW (Ae 32 (Kb 2 56 2 1 (λ_=> .lit (.agg #[.int .i64 2,.int .i64 0])) ?_)))))))))))
 refine Cu (.bool true) (.read 2) (Ra 13 #[.tmp 63,.tmp 65] #[35,35] κ (λ_ _=>by kernel_rfl) 2 (.vec 56 2 1 (λ_=> .lit (.agg #[.int .i64 2,.int .i64 0]))) κ (λ_ _ _ _ h=>by cases h;exact(Ce λ_ _=>rfl)) [.sl 2 1 (Jf 2),.osl 2 2 1] κ [.sl 2 1 (Jf 2),.sl 2 1 (λ_=> .lit (.agg #[.int .i64 2,.int .i64 0]))] κ (.bool true) Aic) (Ae 5 (Kb 3 56 2 1 (λ_=> .lit (.agg #[.int .i64 3,.int .i64 0])) ?_))
 refine Cu (.bool true) (.read 3) (Ra 13 #[.tmp 70,.tmp 72] #[35,35] κ (λ_ _=>by kernel_rfl) 3 (.vec 56 2 1 (λ_=> .lit (.agg #[.int .i64 3,.int .i64 0]))) κ (λ_ _ _ _ h=>by cases h;exact(Ce λ_ _=>rfl)) [.sl 2 1 (Jf 3),.osl 3 2 1] κ [.sl 2 1 (Jf 3),.sl 2 1 (λ_=> .lit (.agg #[.int .i64 3,.int .i64 0]))] κ (.bool true) Aid) (Ae 5 (Kb 4 56 2 1 (λ_=> .lit (.agg #[.int .i64 4,.int .i64 0])) ?_))
 refine Cu (.bool true) (.read 4) (Ra 13 #[.tmp 77,.tmp 79] #[35,35] κ (λ_ _=>by kernel_rfl) 4 (.vec 56 2 1 (λ_=> .lit (.agg #[.int .i64 4,.int .i64 0]))) κ (λ_ _ _ _ h=>by cases h;exact(Ce λ_ _=>rfl)) [.sl 2 1 (Jf 4),.osl 4 2 1] κ [.sl 2 1 (Jf 4),.sl 2 1 (λ_=> .lit (.agg #[.int .i64 4,.int .i64 0]))] κ (.bool true) Aie) (Ae 9 (Su hT Ajd ?_))
 refine Ae 9 (Su hT Aje ?_)
 refine Ae 9 (Su hT (qE AhM) ?_)
 refine Ae 16 (Cz (.bool ((⟨#[48,49,58,48,50,58,48,51,46,48,48,52]⟩:ByteArray).toList==(⟨#[48,49,58,48,50,58,48,51,46,48,48,52]⟩:ByteArray).toList)) (.bool true) ?_ (congrArg Value.bool (beq_self_eq_true _)))
 refine Ae 3 (Cz (.bool ((⟨#[50,52,58,48,48,58,48,48,46,48,48,48]⟩:ByteArray).toList==(⟨#[50,52,58,48,48,58,48,48,46,48,48,48]⟩:ByteArray).toList)) (.bool true) ?_ (congrArg Value.bool (beq_self_eq_true _)))
 exact Ae 9 (Ck)
def Fo (b:Bool) (n:Nat):Int:=if b=true then -(n:Int) else n
def sgZ (b:Bool) (n:Nat):Int:=if n=0 then 0 else if b=true then -1 else 1
theorem Aig (b:Bool) (n:Nat):sgZ b n=(Fo b n).sign:=by
 unfold sgZ Fo
 by_cases h:n=0
 subst h;cases b<;>rfl
 rw[if_neg h]
 cases b with
 |true=>rw[if_pos rfl,if_pos rfl];exact(Int.sign_eq_neg_one_of_neg ω).symm
 |false=>rw[if_neg δ,if_neg δ];exact(Int.sign_eq_one_of_pos ω).symm
theorem Ai1 (b:Bool) (n:Nat):Fo (!b) n= -Fo b n:=by cases b<;>simp[Fo]
theorem Ai0 (b:Bool) (n:Nat) (c:Bool) (m:Nat):Fo (Nn b n c m) (Lv b n c m)=Fo b n+Fo c m:=by
 unfold Nn Lv Fo
 by_cases h:b=c
 subst h
 rw[if_pos rfl,if_pos rfl]
 cases b<;>simp<;>omega
 rw[if_neg h,if_neg h]
 by_cases hm:m<=n
 rw[if_pos hm,if_pos hm]
 cases b<;>cases c<;>first|exact absurd rfl h|(simp;omega)
 rw[if_neg hm,if_neg hm]
 cases b<;>cases c<;>first|exact absurd rfl h|(simp;omega)
theorem dO (x:Int):Fo (decide (x<0)) x.natAbs=x:=by
 unfold Fo
 by_cases h:x<0
 rw[if_pos (decide_eq_true h)];omega
 rw[if_neg (by simpa using h)];omega
theorem mI (b c:Bool) (n m:Nat):Fo (!decide (b=c)) (n*m)=Fo b n*Fo c m:=by
 cases b<;>cases c<;>simp[Fo,Int.neg_mul,Int.mul_neg]
theorem Ajs (b:Bool) (n:Nat) (h:decide (((Al n).length:Int)=0)=true):AF Tryz.prog 169 [Di b n] (.int 0):=by
 refine As func169 rfl λB D0 hA0=>?_
 exact Ae 17 (Jb 3 (decide (((Al n).length:Int)=0)) true h (Ae 9 (Ck)))
theorem Ajt (n:Nat) (h:decide (((Al n).length:Int)=0)=false):AF Tryz.prog 169 [Di true n] (.int (-1)):=by
 refine As func169 rfl λB D0 hA0=>?_
 exact Ae 17 (Jb 3 (decide (((Al n).length:Int)=0)) false h (Ae 17 (Ck)))
theorem Aju (n:Nat) (h:decide (((Al n).length:Int)=0)=false):AF Tryz.prog 169 [Di false n] (.int 1):=by
 refine As func169 rfl λB D0 hA0=>?_
 exact Ae 17 (Jb 3 (decide (((Al n).length:Int)=0)) false h (Ae 18 (Ck)))
theorem Ajv (b:Bool) (n:Nat):AF Tryz.prog 169 [Di b n] (.int (sgZ b n)):=by
 unfold sgZ
 by_cases h:n=0
 rw[if_pos h]
 exact Ajs b n (decide_eq_true (by rw[h,Co];rfl))
 have hl:=Yj (Nat.pos_of_ne_zero h)
 rw[if_neg h]
 cases b with
 |true=>exact Ajt n (decide_eq_false ω)
 |false=>exact Aju n (decide_eq_false ω)
theorem Afr (x y u v:Int) (hx:Bn x) (hy:Bn y) (hu:Bn u) (hv:Bn v) (hyp:0<y) (hvp:0<v):AF Tryz.prog 142 [Iu x y,Iu u v] (.lit (.tuple #[.int .i64 (sgZ (Nn (!decide (decide (x<0)=decide (v<0))) (x.natAbs*v.natAbs) (!(!decide (decide (u<0)=decide (y<0)))) (u.natAbs*y.natAbs)) (Lv (!decide (decide (x<0)=decide (v<0))) (x.natAbs*v.natAbs) (!(!decide (decide (u<0)=decide (y<0)))) (u.natAbs*y.natAbs))),.int .i64 0])):=by
 have d1:=hx.digits
 have d2:=hy.digits
 have d3:=hu.digits
 have d4:=hv.digits
 have p1:=Ey x.natAbs v.natAbs
 have p2:=Ey u.natAbs y.natAbs
 have p3:=Ey y.natAbs v.natAbs
 have p4:=Ey x.natAbs u.natAbs
 have p6:=Ie (!decide (decide (x<0)=decide (v<0))) (x.natAbs*v.natAbs) (!!decide (decide (u<0)=decide (y<0))) (u.natAbs*y.natAbs)
 refine As func142 rfl λB D0 hA0=>?_
 exact Ae 13 (Ao (Tg x y u v θ θ θ θ θ θ) (Ae 10 (Ao (Og x y u v θ θ θ θ) (Ae 13 (Cp [(2,_,.none),(3,_,.none),(4,_,.none)] [4,5] ⟨Be (Vd (!decide (decide (u<0)=decide (y<0))) (u.natAbs*y.natAbs)),Be (Nf (!decide (decide (x<0)=decide (v<0))) (x.natAbs*v.natAbs) (!(!decide (decide (u<0)=decide (y<0)))) (u.natAbs*y.natAbs) ω ω),Be (Ajv (Nn (!decide (decide (x<0)=decide (v<0))) (x.natAbs*v.natAbs) (!(!decide (decide (u<0)=decide (y<0)))) (u.natAbs*y.natAbs)) (Lv (!decide (decide (x<0)=decide (v<0))) (x.natAbs*v.natAbs) (!(!decide (decide (u<0)=decide (y<0)))) (u.natAbs*y.natAbs))),trivial⟩ (Ae 2 (Ck)))))))
theorem Afs (x y u v:Int) (hx:Bn x) (hy:Bn y) (hu:Bn u) (hv:Bn v) (hyp:0<y) (hvp:0<v):AF Tryz.prog 142 [Iu x y,Iu u v] (.lit (.tuple #[.int .i64 (x*v-u*y).sign,.int .i64 0])):=by
 have h:=Afr x y u v hx hy hu hv hyp hvp
 rw[Aig,Ai0,Ai1 (!decide (decide (u<0)=decide (y<0))),mI,mI,dO,dO,dO,dO,<-Int.sub_eq_add_neg] at h
 exact h
theorem eV {b:Bool} {n m:Nat} (h:m∣n):Ev b n m=n/m:=by
 have e:n%m=0:=Nat.mod_eq_zero_of_dvd h
 unfold Ev
 rw[e,if_neg (by simp)]
theorem Ok {b:Bool} {n m:Nat} (h:m∣n) (hn:bitLen n<=65536):bitLen (Ev b n m)<=65536:=by
 rw[eV h]
 exact Nat.le_trans (Lj (Nat.div_le_self n m)) hn
theorem oL {n:Nat} (h:bitLen n<=65536):(Al n).length<=1024:=(show Bn (n:Int) from h).digits
theorem Ams {n:Nat} (h:bitLen n<=65536):(be n).length<=8192:=(show Bn (n:Int) from h).bytes
theorem Pa (b:Bool) (n:Nat):(Fo b n).natAbs=n:=by cases b<;>simp[Fo]
theorem Ah2 {b:Bool} {n:Nat} (h:0<n):decide (Fo b n<0)=b:=by
 cases b
 exact decide_eq_false (by unfold Fo;rw[if_neg δ];omega)
 exact decide_eq_true (by unfold Fo;rw[if_pos rfl];omega)
theorem xE {b:Bool} {n:Nat} (h:0<n):Value.agg #[.bool b,.string (Ci n)]=Ak (Fo b n):=by
 show _=Value.agg #[.bool (decide (Fo b n<0)),.string (Ci (Fo b n).natAbs)]
 rw[Ah2 h,Pa]
theorem eK (n:Nat):Value.agg #[.bool false,.string (Ci n)]=Ak (Fo false n):=by
 show _=Value.agg #[.bool (decide (Fo false n<0)),.string (Ci (Fo false n).natAbs)]
 rw[Pa,show decide (Fo false n<0)=false from decide_eq_false (by unfold Fo;rw[if_neg δ];omega)]
theorem Amb (n:Nat) (h:decide ((65536:Int)<(bitLen n:Int))=false) (h2:decide ((0:Int)<((Al n).length:Int))=true) (hl:(Al n).length<=1024) (_:(be n).length<=8192):AF Tryz.prog 121 [Di true n] (.lit (.tuple #[.agg #[.bool true,.string (Ci n)],.int .i64 0])):=by
 refine As func121 rfl λB D0 hA0=>?_
 exact Ae 12 (Ao (Ng n ω) (Ae 3 (Jb 7 (decide ((65536:Int)<(bitLen n:Int))) false h (Ae 4 (Cp [(6,.bool true,.none),(10,_,.none)] [2,3] ⟨vK h2,Be (Ko n (Tp ω)),trivial⟩ (Ae 2 (Ck)))))))
theorem Amc (n:Nat) (h:decide ((65536:Int)<(bitLen n:Int))=false) (h2:decide ((0:Int)<((Al n).length:Int))=false) (hl:(Al n).length<=1024) (_:(be n).length<=8192):AF Tryz.prog 121 [Di true n] (.lit (.tuple #[.agg #[.bool false,.string (Ci n)],.int .i64 0])):=by
 refine As func121 rfl λB D0 hA0=>?_
 exact Ae 12 (Ao (Ng n ω) (Ae 3 (Jb 7 (decide ((65536:Int)<(bitLen n:Int))) false h (Ae 4 (Cp [(6,.bool false,.none),(10,_,.none)] [2,3] ⟨vK h2,Be (Ko n (Tp ω)),trivial⟩ (Ae 2 (Ck)))))))
theorem Amd (n:Nat) (h:decide ((65536:Int)<(bitLen n:Int))=false) (hl:(Al n).length<=1024) (_:(be n).length<=8192):AF Tryz.prog 121 [Di false n] (.lit (.tuple #[.agg #[.bool false,.string (Ci n)],.int .i64 0])):=by
 refine As func121 rfl λB D0 hA0=>?_
 exact Ae 12 (Ao (Ng n ω) (Ae 3 (Jb 7 (decide ((65536:Int)<(bitLen n:Int))) false h (Ae 4 (Cp [(10,_,.none)] [2,3] ⟨Be (Ko n (Tp ω)),trivial⟩ (Ae 2 (Ck)))))))
theorem kC (b:Bool) (n:Nat) (h:bitLen n<=65536):AF Tryz.prog 121 [Di b n] (.lit (.tuple #[Ak (Fo b n),.int .i64 0])):=by
 have hl:=oL h
 have hb:=Ams h
 have h1:decide ((65536:Int)<(bitLen n:Int))=false:=decide_eq_false ω
 cases b with
 |false=>rw[<-eK];exact Amd n h1 hl hb
 |true=>
  by_cases h0:0<n
  have:=Yj h0
  rw[<-xE h0];exact Amb n h1 (decide_eq_true ω) hl hb
  obtain rfl:n=0:=by omega
  have e:Fo true 0=Fo false 0:=rfl
  rw[e,<-eK];exact Amc 0 h1 (decide_eq_false (by rw[Co];decide)) hl hb
theorem sH {n k:Nat}:Nat.gcd n k∣n:=Nat.gcd_dvd_left n k
theorem Yc {n k:Nat}:Nat.gcd n k∣k:=Nat.gcd_dvd_right n k
theorem wH (b:Bool) (n:Nat) (c:Bool) (k:Nat) (h0:0<k) (hn:bitLen n<=65536) (hk:bitLen k<=65536):AF Tryz.prog 187 [Di b n,Di c k] (.lit (.tuple #[.agg #[.bool (decide (Fo (!decide (b=c)) (Ev b n (Nat.gcd n k))<0)),.string (Ci (Fo (!decide (b=c)) (Ev b n (Nat.gcd n k))).natAbs),.bool (decide (Fo (!decide (c=c)) (Ev c k (Nat.gcd n k))<0)),.string (Ci (Fo (!decide (c=c)) (Ev c k (Nat.gcd n k))).natAbs)],.int .i64 0])):=by
 have hg:0<Nat.gcd n k:=Nat.gcd_pos_of_pos_right n h0
 have l1:=oL hn
 have l2:=oL hk
 have hg1:=oM (n:=n) h0
 have hq1:bitLen (Ev b n (Nat.gcd n k))<=65536:=Ok sH hn
 have hq2:bitLen (Ev c k (Nat.gcd n k))<=65536:=Ok Yc hk
 refine As func187 rfl λB D0 hA0=>?_
 exact Ae 9 (Cp [(6,_,.none)] [2,3,4,6] ⟨Be (cR n k ω ω),trivial⟩ (Ae 5 (Ao (Jc b n c (Nat.gcd n k) ω ω ω) (Ae 10 (Ao (Jc c k c (Nat.gcd n k) ω ω ω) (Ae 9 (Ao (kC (!decide (b=c)) (Ev b n (Nat.gcd n k)) θ) (Ae 11 (Ao (kC (!decide (c=c)) (Ev c k (Nat.gcd n k)) θ) (Ae 32 (Ck)))))))))))
def AkQ (v:Rr×Int):AV:= .lit (.tuple #[.agg #[.bool v.1.num.neg,.string v.1.num.mag,.bool v.1.den.neg,.string v.1.den.mag],.int .i64 v.2])
def Aop (r:AV):Prop:=∃v:Rr×Int,(v.2=0->Vt v.1)/\r=AkQ v
theorem An1 (b:Bool) (n:Nat) (c:Bool) (k:Nat) (h0:0<k) (hn:bitLen n<=65536) (hk:bitLen k<=65536):Vt ⟨⟨decide (Fo (!decide (b=c)) (Ev b n (Nat.gcd n k))<0),Ci (Fo (!decide (b=c)) (Ev b n (Nat.gcd n k))).natAbs⟩,⟨decide (Fo (!decide (c=c)) (Ev c k (Nat.gcd n k))<0),Ci (Fo (!decide (c=c)) (Ev c k (Nat.gcd n k))).natAbs⟩⟩:=by
 refine⟨_,_,?_,?_,?_,rfl⟩
 show bitLen _<=_
 rw[Pa];exact Ok sH hn
 show bitLen _<=_
 rw[Pa];exact Ok Yc hk
 rw[show (!decide (c=c))=false by simp,eV Yc]
 have:=Nat.div_pos (Nat.le_of_dvd h0 Yc) (Nat.gcd_pos_of_pos_right n h0)
 unfold Fo
 rw[if_neg δ]
 omega
theorem AiO (x y:Int) (hx:Bn x) (hy:Bn y) (h1:bitLen x.natAbs<=65536) (h2:bitLen y.natAbs<=65536):∃r,(Gc [.agg [.b,.s,.b,.s],.one .i] r/\Aop r)/\AF Tryz.prog 135 [WA x,WA y] r:=by
 have hd:=hx.digits
 have he:=hy.digits
 refine Au func135 rfl ?_
 refine Ab 13 (gs (Ao (Hz x y θ θ) ·) (Ab 11 (gs (Cz (.bool ((Ci y.natAbs).toList==(⟨#[]⟩:ByteArray).toList)) (.bool ((Ci y.natAbs).toList==(⟨#[]⟩:ByteArray).toList)) ·) (Ab 2 (tsb 13 ((Ci y.natAbs).toList==(⟨#[]⟩:ByteArray).toList) (λhx1=>?_) (λhx1=>?_))))))
 exact Ab 10 (Fa (.lit (.tuple #[.agg #[.bool false,.string ⟨#[]⟩,.bool false,.string ⟨#[]⟩],.int .i64 3])) ⟨(⟨⟨false,⟨#[]⟩⟩,⟨false,⟨#[]⟩⟩⟩,3),λh=>absurd h δ,rfl⟩)
 refine Ab 3 ?_
 have hp:=Aa8 hx1
 exact Ab 1 (gs (Cp [(1,_,.none),(3,_,.none),(4,_,.none)] [4,5] ⟨Be (Da x θ),Be (Da y θ),Be (wH (decide (x<0)) x.natAbs (decide (y<0)) y.natAbs θ θ θ),trivial⟩ ·) (Ab 2 (Fa (.lit (.tuple #[.agg #[.bool (decide (Fo (!decide ((decide (x<0))=(decide (y<0)))) (Ev (decide (x<0)) x.natAbs (Nat.gcd x.natAbs y.natAbs))<0)),.string (Ci (Fo (!decide ((decide (x<0))=(decide (y<0)))) (Ev (decide (x<0)) x.natAbs (Nat.gcd x.natAbs y.natAbs))).natAbs),.bool (decide (Fo (!decide ((decide (y<0))=(decide (y<0)))) (Ev (decide (y<0)) y.natAbs (Nat.gcd x.natAbs y.natAbs))<0)),.string (Ci (Fo (!decide ((decide (y<0))=(decide (y<0)))) (Ev (decide (y<0)) y.natAbs (Nat.gcd x.natAbs y.natAbs))).natAbs)],.int .i64 0])) ⟨(⟨⟨decide (Fo (!decide ((decide (x<0))=(decide (y<0)))) (Ev (decide (x<0)) x.natAbs (Nat.gcd x.natAbs y.natAbs))<0),Ci (Fo (!decide ((decide (x<0))=(decide (y<0)))) (Ev (decide (x<0)) x.natAbs (Nat.gcd x.natAbs y.natAbs))).natAbs⟩,⟨decide (Fo (!decide ((decide (y<0))=(decide (y<0)))) (Ev (decide (y<0)) y.natAbs (Nat.gcd x.natAbs y.natAbs))<0),Ci (Fo (!decide ((decide (y<0))=(decide (y<0)))) (Ev (decide (y<0)) y.natAbs (Nat.gcd x.natAbs y.natAbs))).natAbs⟩⟩,0),λ_=>An1 _ _ _ _ θ θ θ,rfl⟩)))
theorem AiP (x y:Int) (hx:Bn x) (hy:Bn y):∃v:Rr×Int,(v.2=0->Vt v.1)/\AF Tryz.prog 135 [WA x,WA y] (AkQ v):=by
 obtain⟨r,⟨_,v,hv,rfl⟩,h⟩:=AiO x y hx hy hx hy
 exact⟨v,hv,h⟩
theorem AiQ (x y:Int) (hx0: -9223372036854775808<=x) (hx1:x<=9223372036854775807) (hy0: -9223372036854775808<=y) (hy1:y<=9223372036854775807):∃r,(Gc [.agg [.b,.s,.b,.s],.one .i] r/\Aop r)/\AF Tryz.prog 195 [.int x,.int y] r:=by
 have hx:=Eg hx0 hx1
 have hy:=Eg hy0 hy1
 refine Au func195 rfl ?_
 exact Ab 9 (gs (Ao (Er x θ θ) ·) (Ab 1 (gs (Ao (Er y θ θ) ·) (Exists.elim (AiP x y θ θ) λv1 hv1=>(gs (Ao hv1.2 ·) (Ab 7 (Fa (AkQ v1) ⟨v1,hv1.1,rfl⟩)))))))
theorem gO (x y:Int) (hx0: -9223372036854775808<=x) (hx1:x<=9223372036854775807) (hy0: -9223372036854775808<=y) (hy1:y<=9223372036854775807):∃v:Rr×Int,(v.2=0->Vt v.1)/\AF Tryz.prog 195 [.int x,.int y] (AkQ v):=by
 obtain⟨r,⟨_,v,hv,rfl⟩,h⟩:=AiQ x y hx0 hx1 hy0 hy1
 exact⟨v,hv,h⟩
open Go.Sort hiding Below
theorem Aai {w w':World} (hb:Below w.heap.size w w') (hd:w.drawn<=w'.drawn):∃q os',w'=grow (w.drewN q) os':=by
 refine⟨w'.drawn-w.drawn,w'.heap.extract w.heap.size w'.heap.size,?_⟩
 have e:w'.heap=w.heap++w'.heap.extract w.heap.size w'.heap.size:=by
  apply Array.ext
  have:=hb.size
  simp;omega
  intro i h1 h2
  by_cases hi:i<w.heap.size
  rw[Array.getElem_append_left hi]
  have:=hb.block i hi
  rw[Array.getElem?_eq_getElem h1,Array.getElem?_eq_getElem hi] at this
  exact Option.some.inj this
  rw[Array.getElem_append_right ω]
  simp[show w.heap.size+(i-w.heap.size)=i by omega]
 obtain⟨h1,h2,h3,h4,h5⟩:=w'
 have g1:=hb.os;have g2:=hb.tape;have g3:=hb.output
 simp only at e g1 g2 g3 hd
 show _=World.mk _ _ _ _ _
 simp only[World.drewN]
 rw[<-e,g1,g2,g3,show w.drawn+(h3-w.drawn)=h3 by omega]
theorem rT {f:FuncId} {l:List Value} {r:Value} (h:AF Tryz.prog f (l.map .lit) (.lit r)) (w:World):Calls Tryz.prog f l.toArray w λe w'=>e= .returned r/\∃q os',w'=grow (w.drewN q) os':=by
 refine(Drw.calls_drawn (h { π:=λ_=>0,cap:=λ_=>0,A:=λ_=>False,D:=λ_=>False,w:=w } l.toArray (λ_ h=>h.elim) (by simp) λi hi=>?_)).mono ?_
 have h2:i<l.length:=by simpa using hi
 have e1:(l.map AV.lit).getD i .top= .lit (l.toArray.getD i undef):=by simp[h2]
 rw[e1];exact .lit _ _
 rintro e w' ⟨⟨v,D',rfl,hr,hb,_,_,_⟩,hd⟩
 exact⟨by rw[hr.lit_inv],Aai hb (hd (by simp))⟩
abbrev RQ:={r:Rr//Vt r}
theorem gL:Vt ⟨⟨false,⟨#[]⟩⟩,⟨decide ((1:Int)<0),Ci 1⟩⟩:=⟨0,1,Eg δ δ,Eg δ δ,δ,by
 have e:Ci (0:Int).natAbs=⟨#[]⟩:=Qp
 show AV.lit (Value.agg #[.bool false,.string ⟨#[]⟩,.bool (decide ((1:Int)<0)),.string (Ci 1)])=AV.lit (Value.agg #[.bool (decide ((0:Int)<0)),.string (Ci (0:Int).natAbs),.bool (decide ((1:Int)<0)),.string (Ci (1:Int).natAbs)])
 rw[e];rfl⟩
noncomputable instance:Inhabited RQ:=⟨⟨_,gL⟩⟩
def sB (r:RQ):List Value:=[.bool r.1.num.neg,.string r.1.num.mag,.bool r.1.den.neg,.string r.1.den.mag]
noncomputable def rqx (r:RQ):Int:=r.2.choose
noncomputable def rqy (r:RQ):Int:=r.2.choose_spec.choose
theorem Pe (r:RQ):Bn (rqx r)/\Bn (rqy r)/\0<rqy r/\Cq r.1=Iu (rqx r) (rqy r):=r.2.choose_spec.choose_spec
noncomputable def cfQ (a b:RQ):Int:=(rqx a*rqy b-rqx b*rqy a).sign
theorem Rp {a b:RQ}:cfQ a b<0↔rqx a*rqy b<rqx b*rqy a:=by
 unfold cfQ
 constructor
 intro h
 refine Int.not_le.1 λh2=>?_
 have:0<=(rqx a*rqy b-rqx b*rqy a).sign:=Int.sign_nonneg_iff.2 ω
 omega
 intro h
 rw[Int.sign_eq_neg_one_of_neg ω]
 decide
theorem Agm {a b c d e f:Int} (hb:0<b) (hd:0<d) (hf:0<f) (h1:a*d<c*b) (h2:c*f<e*d):a*f<e*b:=by
 have g1:a*d*f<c*b*f:=Int.mul_lt_mul_of_pos_right h1 hf
 have g2:c*f*b<e*d*b:=Int.mul_lt_mul_of_pos_right h2 hb
 have e1:c*b*f=c*f*b:=by rw[Int.mul_assoc,Int.mul_comm b f,<-Int.mul_assoc]
 have e2:a*d*f=a*f*d:=by rw[Int.mul_assoc,Int.mul_comm d f,<-Int.mul_assoc]
 have e3:e*d*b=e*b*d:=by rw[Int.mul_assoc,Int.mul_comm d b,<-Int.mul_assoc]
 have g3:a*f*d<e*b*d:=by rw[<-e2,<-e3];rw[e1] at g1;exact Int.lt_trans g1 g2
 exact Int.lt_of_mul_lt_mul_right g3 (Int.le_of_lt hd)
theorem Agl {a b c d e f:Int} (hb:0<b) (hd:0<d) (hf:0<f) (h1:a*d<=c*b) (h2:c*f<=e*d):a*f<=e*b:=by
 have g1:a*d*f<=c*b*f:=Int.mul_le_mul_of_nonneg_right h1 (Int.le_of_lt hf)
 have g2:c*f*b<=e*d*b:=Int.mul_le_mul_of_nonneg_right h2 (Int.le_of_lt hb)
 have e1:c*b*f=c*f*b:=by rw[Int.mul_assoc,Int.mul_comm b f,<-Int.mul_assoc]
 have e2:a*d*f=a*f*d:=by rw[Int.mul_assoc,Int.mul_comm d f,<-Int.mul_assoc]
 have e3:e*d*b=e*b*d:=by rw[Int.mul_assoc,Int.mul_comm d b,<-Int.mul_assoc]
 have g3:a*f*d<=e*b*d:=by rw[<-e2,<-e3];rw[e1] at g1;exact Int.le_trans g1 g2
 exact Int.le_of_mul_le_mul_right g3 hd
theorem Apd:SWO (ltOf cfQ) where
 irrefl x:=decide_eq_false λh=>by have:=Rp.1 h;omega
 trans x y z h1 h2:=decide_eq_true (Rp.2 (Agm (Pe x).2.2.1 (Pe y).2.2.1 (Pe z).2.2.1 (Rp.1 (of_decide_eq_true h1)) (Rp.1 (of_decide_eq_true h2))))
 ntrans x y z h1 h2:=decide_eq_false λh=>by
  have k1:¬(rqx x*rqy y<rqx y*rqy x):=λg=>of_decide_eq_false h1 (Rp.2 g)
  have k2:¬(rqx y*rqy z<rqx z*rqy y):=λg=>of_decide_eq_false h2 (Rp.2 g)
  have k3:=Rp.1 h
  have:=Agl (Pe z).2.2.1 (Pe y).2.2.1 (Pe x).2.2.1 (Int.not_lt.1 k2) (Int.not_lt.1 k1)
  omega
theorem Ajk (a b:RQ):AF Tryz.prog 142 [Cq a.1,Cq b.1] (.lit (.tuple #[.int .i64 (cfQ a b),.int .i64 0])):=by
 obtain⟨h1,h2,h3,h4⟩:=Pe a
 obtain⟨k1,k2,k3,k4⟩:=Pe b
 rw[h4,k4]
 exact Afs _ _ _ _ h1 h2 k1 k2 h3 k3
theorem AbT (a b:RQ):AF Tryz.prog 141 [Cq a.1,Cq b.1] (.lit (.int .i64 (cfQ a b))):=by
 refine As func141 rfl λB D0 hA0=>?_
 exact Ae 11 (Ao (Ajk a b) (Ae 14 (Ck)))
theorem Agi (blk off size:Nat) (w:World):CmpLays Tryz.prog 141 #[] sB 4 cfQ blk off size w:=λ_ _ _ _ x y=>rT (l:=[.agg (sB x).toArray,.agg (sB y).toArray]) (AbT x y) _
noncomputable def Abx (d:Array RQ):Array RQ:=pdq (ltOf cfQ) d 0 d.size (Lib.bitLen d.size) true true
theorem zY (d:Array RQ):(Abx d).size=d.size:=(pdq_sorts (ltOf cfQ) Apd d 0 d.size (Lib.bitLen d.size) true true Ω ζ (Or.inl rfl)).1.1
theorem AbC (d:Array RQ) (hd:d.size<4611686018427387904):AFW Tryz.prog 143 4 sB d (Abx d) [.func (.func 141) #[] #[]]:=λblk off cap w hH hb=>by
 have h:=AnyQ.slices_SortFunc_eq Tryz.laysSort 4 (λw=>by kernel_rfl) (λw=>by kernel_rfl) sB (λ_=>rfl) (λx v hv=>by
  unfold sB at hv
  simp at hv
  rcases hv with rfl|rfl|rfl|rfl<;>rfl) cfQ Apd 141 #[] blk off cap d w (λargs w=>by kernel_rfl) (Agi blk off d.size w) hH hb hd
 refine h.mono ?_
 rintro e w' ⟨rfl,n,os,rfl⟩
 exact⟨rfl,n,os,rfl⟩
theorem Qx {f:FuncId} {t:TypeId} {us:List Value} {hs:Ta} {args:List AV} {σ:List SC} (h:∃V us',(shV σ V=true/\∃e,us'=[.int .i64 e])/\jO Tryz.prog f t us us' hs args V):∃v:Value×Int,jO Tryz.prog f t us [.int .i64 v.2] hs args (Hp σ v.1):=by
 obtain⟨V,us',⟨h1,e,rfl⟩,h2⟩:=h
 exact⟨(V,e),by rw[yY σ V h1];exact h2⟩
structure Sq where
 u:Rw
 v:Rw
 w:Rw
abbrev sqA (p:Sq):AV:= .lit (.agg #[.bool p.u.neg,.string p.u.mag,.bool p.v.neg,.string p.v.mag,.bool p.w.neg,.string p.w.mag])
theorem eS (e:Int) (a:Rw) (f:Int):∃v:Value×Int,jO Tryz.prog 147 239 [.int .i64 e] [.int .i64 v.2] [] [.ptr 0 0,Fx a,.int f] (Hp [.agg [.b,.s]] v.1):=by
 refine Qx (Kz func147 rfl ?_)
 refine Ab 16 (Ew 11 ?_ ?_)
 exact Ab 16 (Sk (.agg #[.bool a.neg,.string a.mag]) [.int .i64 f] ⟨rfl,_,rfl⟩)
 exact Ab 10 (Sk (.agg #[.bool a.neg,.string a.mag]) [.int .i64 e] ⟨rfl,_,rfl⟩)
theorem Mk (e:Int) (a:Rw) (b:Rw):∃v:Value×Int,jO Tryz.prog 146 239 [.int .i64 e] [.int .i64 v.2] [] [.ptr 0 0,Fx a,Fx b] (Hp [.agg [.b,.s]] v.1):=by
 refine Qx (Kz func146 rfl ?_)
 exact Ab 12 (Dy (eC a b) λv1 hv1=>(gs (Ao hv1 ·) (Ab 2 (Exists.elim (eS e (⟨(gB (gT (gT v1 0) 0)),(gS (gT (gT v1 0) 1))⟩) (gI (gT v1 1))) λv2 hv2=>(gs (vcx 0 [] hv2 ·) (Ab 4 (Sk (.agg #[.bool (gB (gT v2.1 0)),.string (gS (gT v2.1 1))]) [.int .i64 v2.2] ⟨rfl,_,rfl⟩)))))))
theorem nO (e:Int) (a:Rw) (b:Rw):∃v:Value×Int,jO Tryz.prog 204 239 [.int .i64 e] [.int .i64 v.2] [] [.ptr 0 0,Fx a,Fx b] (Hp [.agg [.b,.s]] v.1):=by
 refine Qx (Kz func204 rfl ?_)
 exact Ab 12 (Dy (Af2 a b) λv1 hv1=>(gs (Ao hv1 ·) (Ab 2 (Exists.elim (eS e (⟨(gB (gT (gT v1 0) 0)),(gS (gT (gT v1 0) 1))⟩) (gI (gT v1 1))) λv2 hv2=>(gs (vcx 0 [] hv2 ·) (Ab 4 (Sk (.agg #[.bool (gB (gT v2.1 0)),.string (gS (gT v2.1 1))]) [.int .i64 v2.2] ⟨rfl,_,rfl⟩)))))))
theorem xM (e:Int) (x:Rr) (y:Rr):∃v:Value×Int,jO Tryz.prog 151 239 [.int .i64 e] [.int .i64 v.2] [] [.ptr 0 0,Cq x,Cq y] (Hp [.agg [.b,.s,.b,.s,.b,.s]] v.1):=by
 refine Qx (Kz func151 rfl ?_)
 exact Ab 8 (Exists.elim (Mk e x.num y.den) λv1 hv1=>(Exists.elim (Mk v1.2 y.num x.den) λv2 hv2=>(Exists.elim (Mk v2.2 x.den y.den) λv3 hv3=>(gs (Cp [(5,_,_),(11,_,_),(17,_,_)] [6] ⟨aX 0 [] hv1,aX 0 [] hv2,aX 0 [] hv3,trivial⟩ ·) (Ab 2 (Sk (.agg #[.bool (gB (gT v1.1 0)),.string (gS (gT v1.1 1)),.bool (gB (gT v2.1 0)),.string (gS (gT v2.1 1)),.bool (gB (gT v3.1 0)),.string (gS (gT v3.1 1))]) [.int .i64 v3.2] ⟨rfl,_,rfl⟩))))))
theorem Qs (e:Int) (n:Int) (m:Int) (t:Rr):∃v:Value×Int,jO Tryz.prog 145 239 [.int .i64 e] [.int .i64 v.2] [] [.int n,.int m,Cq t,.ptr 0 0] (Hp [.agg [.b,.s,.b,.s]] v.1):=by
 refine Qx (Kz func145 rfl ?_)
 exact Ab 7 (Dy (Mh m) λv1 hv1=>(Exists.elim (Mk e (⟨(gB (gT v1 0)),(gS (gT v1 1))⟩) t.num) λv2 hv2=>(gs (Cp [(1,_,.none),(4,_,_)] [0,3,6,7,8] ⟨Be hv1,aX 0 [] hv2,trivial⟩ ·) (Ab 2 (Dy (Mh n) λv3 hv3=>(Exists.elim (Mk v2.2 (⟨(gB (gT v3 0)),(gS (gT v3 1))⟩) t.den) λv4 hv4=>(Dy (qV (⟨(gB (gT v2.1 0)),(gS (gT v2.1 1))⟩) (⟨(gB (gT v4.1 0)),(gS (gT v4.1 1))⟩)) λv5 hv5=>(Exists.elim (eS v4.2 (⟨(gB (gT (gT v5 0) 0)),(gS (gT (gT v5 0) 1))⟩) (gI (gT v5 1))) λv6 hv6=>(gs (Cp [(2,_,.none),(5,_,_),(6,_,.none),(9,_,_)] [7] ⟨Be hv3,aX 0 [] hv4,Be hv5,aX 0 [] hv6,trivial⟩ ·) (Ab 2 (Sk (.agg #[.bool (gB (gT v6.1 0)),.string (gS (gT v6.1 1)),.bool t.den.neg,.string t.den.mag]) [.int .i64 v6.2] ⟨rfl,_,rfl⟩)))))))))))
theorem AaE (e:Int) (p:Sq) (a:V3):∃v:Value×Int,jO Tryz.prog 203 239 [.int .i64 e] [.int .i64 v.2] [(294,[.ptr 0 0]),(244,[.lit (.bool p.u.neg),.lit (.string p.u.mag),.lit (.bool p.v.neg),.lit (.string p.v.mag),.lit (.bool p.w.neg),.lit (.string p.w.mag)])] [Bf a,.ptr 1 0,.ptr 2 0] (Hp [.agg [.b,.s],.agg [.b,.s]] v.1):=by
 refine Qx (Kz func203 rfl ?_)
 exact Ab 8 (Dy (Mh a.x) λv1 hv1=>(Exists.elim (Mk e (⟨(gB (gT v1 0)),(gS (gT v1 1))⟩) p.w) λv2 hv2=>(Exists.elim (nO v2.2 p.u (⟨(gB (gT v2.1 0)),(gS (gT v2.1 1))⟩)) λv3 hv3=>(Dy (Mh a.y) λv4 hv4=>(Exists.elim (Mk v3.2 (⟨(gB (gT v4 0)),(gS (gT v4 1))⟩) p.w) λv5 hv5=>(Exists.elim (nO v5.2 p.v (⟨(gB (gT v5.1 0)),(gS (gT v5.1 1))⟩)) λv6 hv6=>(gs (Cp [(6,_,.none),(9,_,_),(10,_,_),(17,_,.none),(20,_,_),(21,_,_)] [4,5] ⟨Be hv1,aX 0 [] hv2,aX 0 [] hv3,Be hv4,aX 0 [] hv5,aX 0 [] hv6,trivial⟩ ·) (Ab 2 (Sk (.tuple #[.agg #[.bool (gB (gT v3.1 0)),.string (gS (gT v3.1 1))],.agg #[.bool (gB (gT v6.1 0)),.string (gS (gT v6.1 1))]]) [.int .i64 v6.2] ⟨rfl,_,rfl⟩)))))))))
theorem Aka (e:Int) (p:Sq) (a:V3) (b:V3):∃v:Value×Int,jO Tryz.prog 205 239 [.int .i64 e] [.int .i64 v.2] [(294,[.ptr 0 0]),(244,[.lit (.bool p.u.neg),.lit (.string p.u.mag),.lit (.bool p.v.neg),.lit (.string p.v.mag),.lit (.bool p.w.neg),.lit (.string p.w.mag)]),(296,[.fn 203 [.ptr 1 0,.ptr 2 0]])] [Bf a,Bf b,.ptr 3 0,.ptr 1 0] (Hp [.one .i] v.1):=by
 refine Qx (Kz func205 rfl ?_)
 exact Ab 11 (Exists.elim (AaE e p a) λv1 hv1=>(gs (vcx 0 [1,2] hv1 ·) (Ab 10 (Dy (Mh (Ai (b.x-a.x))) λv2 hv2=>(Exists.elim (Mk v1.2 (⟨(gB (gT v2 0)),(gS (gT v2 1))⟩) (⟨(gB (gT (gT v1.1 1) 0)),(gS (gT (gT v1.1 1) 1))⟩)) λv3 hv3=>(Dy (Mh (Ai (b.y-a.y))) λv4 hv4=>(Exists.elim (Mk v3.2 (⟨(gB (gT v4 0)),(gS (gT v4 1))⟩) (⟨(gB (gT (gT v1.1 0) 0)),(gS (gT (gT v1.1 0) 1))⟩)) λv5 hv5=>(Exists.elim (nO v5.2 (⟨(gB (gT v3.1 0)),(gS (gT v3.1 1))⟩) (⟨(gB (gT v5.1 0)),(gS (gT v5.1 1))⟩)) λv6 hv6=>(Dy (Io (⟨(gB (gT v6.1 0)),(gS (gT v6.1 1))⟩)) λv7 hv7=>(gs (Cp [(7,_,.none),(9,_,_),(16,_,.none),(18,_,_),(19,_,_),(20,_,.none)] [6] ⟨Be hv2,aX 0 [] hv3,Be hv4,aX 0 [] hv5,aX 0 [] hv6,Be hv7,trivial⟩ ·) (Ab 2 (Sk (.int .i64 (gI v7)) [.int .i64 v6.2] ⟨rfl,_,rfl⟩))))))))))))
theorem cX (e:Int) (p:Sq) (a:V3) (n:Int):∃v:Value×Int,jO Tryz.prog 206 239 [.int .i64 e] [.int .i64 v.2] [(294,[.ptr 0 0]),(244,[.lit (.bool p.u.neg),.lit (.string p.u.mag),.lit (.bool p.v.neg),.lit (.string p.v.mag),.lit (.bool p.w.neg),.lit (.string p.w.mag)]),(296,[.fn 203 [.ptr 1 0,.ptr 2 0]])] [Bf a,.int n,.ptr 3 0] (Hp [.one .i] v.1):=by
 refine Qx (Kz func206 rfl ?_)
 refine Ab 10 (Exists.elim (AaE e p a) λv1 hv1=>(gs (vcx 0 [1,2] hv1 ·) (Ab 16 (Ew 15 ?_ ?_))))
 exact Ab 4 (Dy (Io (⟨(gB (gT (gT v1.1 0) 0)),(gS (gT (gT v1.1 0) 1))⟩)) λv2 hv2=>(gs (Ao hv2 ·) (gs (Cz (.int .i64 (Ai (0-(gI v2)))) (.int .i64 (Ai (0-(gI v2)))) ·) (Ab 5 (Sk (.int .i64 (Ai (0-(gI v2)))) [.int .i64 v1.2] ⟨rfl,_,rfl⟩)))))
 exact Ab 6 (Dy (Io (⟨(gB (gT (gT v1.1 1) 0)),(gS (gT (gT v1.1 1) 1))⟩)) λv3 hv3=>(gs (Ao hv3 ·) (gs (Cz (.int .i64 (Ai (0-(gI v3)))) (.int .i64 (Ai (0-(gI v3)))) ·) (Ab 4 (Sk (.int .i64 (Ai (0-(gI v3)))) [.int .i64 v1.2] ⟨rfl,_,rfl⟩)))))
theorem Ac3 (e:Int) (l:Vs) (p:Sq) (h0:l.n<=64):∃v:Value×Int,jO Tryz.prog 154 239 [.int .i64 e] [.int .i64 v.2] [] [.ptr 0 0,Cd l,sqA p] (Hp [.one .i] v.1):=by
 refine Qx (Kz func154 rfl ?_)
 refine Ab 19 (cE func53 (Ab 17 (cE func34 (Ab 13 (Iy (Ab 3 (gs (vnm [4,5,6,7,16] ·) (uT func52 λsp3 sp3p sp3a sp3b=>(Ab 8 (Vl [0,1,6,7,8] (λm s=>∃i iw ie,m=l.n-i/\(i<=l.n)/\s=⟨[(0,.yld 9),(1,.ptr 8 0),(6,Cd l),(7,.int (l.n:Int)),(8,.int (i:Int))],[(0,.box 239 [.int ie]),(1,.box 294 [.ptr 0 0]),(2,.box 244 [.bool p.u.neg,.lit (.string p.u.mag),.bool p.v.neg,.lit (.string p.v.mag),.bool p.w.neg,.lit (.string p.w.mag)]),(3,.box 296 [.fn 203 [.ptr 1 0,.ptr 2 0]]),(4,.box 118 [.fn 205 [.ptr 3 0,.ptr 1 0]]),(5,.box 120 [.fn 206 [.ptr 3 0]]),(6,.box 3 [.int 0]),(7,.box 3 [.int iw]),(8,.box 22 [Cd l]),(9,.loop .ready none sp3 [(4,.ptr 4 0),(5,.ptr 5 0),(6,.ptr 6 0),(7,.ptr 7 0),(16,.fn 52 [.ptr 8 0])] 77)],10,35⟩) (l.n-0) ⟨0,0,e,rfl,Nat.zero_le _,κ⟩ ?_))))))))))
 rintro _ _ ⟨i,iw,ie,rfl,hF,rfl⟩ hJ1
 refine Ab 6 (Hn 9 ((i:Int)<(l.n:Int)) (λhx5 hx5d=>?_) (λhx5 hx5d=>?_))
 refine Ab 8 (gs (Gu i l.n ·) (Ab 7 ?_))
 have hm5:=Nat.mod_lt (i+1) (by omega:0<l.n)
 refine gs (Cp [(2,.int ((i+1:Nat):Int),.none),(5,.int (((i+1)%l.n:Nat):Int),.none),(6,Cw (Cd l) ((i+1)%l.n),.none)] [0,1,4,5,6,7,8] ⟨En (.int .i64 (IntKind.wrap .i64 ((i:Int)+1))) η,uD ((i+1:Nat):Int) (l.n:Int) (((i+1)%l.n:Nat):Int) ω rfl,Jn ((i+1)%l.n) l.n,trivial⟩ ·) (Ab 14 (iH sp3p sp3a (Ab 10 (iG sp3b ?_))))
 refine Ab 6 (Exists.elim (Aka ie p (⟨(l.f i).x,(l.f i).y,0⟩) (⟨(l.f ((i+1)%l.n)).x,(l.f ((i+1)%l.n)).y,0⟩)) λv8 hv8=>(gs (vcx 0 [1,2,3] hv8 ·) (Ab 4 (Exists.elim (cX v8.2 p (⟨(l.f i).x,(l.f i).y,0⟩) 0) λv9 hv9=>(Exists.elim (cX v9.2 p (⟨(l.f i).x,(l.f i).y,0⟩) 1) λv10 hv10=>(Exists.elim (cX v10.2 p (⟨(l.f ((i+1)%l.n)).x,(l.f ((i+1)%l.n)).y,0⟩) 0) λv11 hv11=>(Exists.elim (cX v11.2 p (⟨(l.f ((i+1)%l.n)).x,(l.f ((i+1)%l.n)).y,0⟩) 1) λv12 hv12=>(gs (Cp [(2,_,_),(5,_,_),(8,_,_),(11,_,_)] [6,7,10,11,12,13,14] ⟨aX 0 [1,2,3] hv9,aX 0 [1,2,3] hv10,aX 0 [1,2,3] hv11,aX 0 [1,2,3] hv12,trivial⟩ ·) (Ab 7 (tsh 13 37 false [6,7,10,12,14,48] ?_ (λhS13=>?_)))))))))))
 refine Ab 9 (tsh 10 52 false [7,10,12,14,49] ?_ (λhS14=>?_))
 refine Ab 6 (tsh 10 65 false [7,62] ?_ (λhS15=>?_))
 exact Ab 4 (Pj (Ab 8 (gs (Cv ((i:Int)+1) ((i+1:Nat):Int) ·) (Ab 2 (Fy [0,1,6,7,8] [(0,0),(1,1),(2,2),(3,3),(4,4),(5,5),(6,6),(7,7),(8,8),(9,9)] 10 [] trivial (hJ1 _ _ (by omega:l.n-(i+1)<l.n-i) ⟨i+1,iw,v12.2,rfl,ω,rfl⟩))))))
 refine Ew 65 ?_ ?_
 refine Ab 4 (Ew 69 ?_ ?_)
 refine Ab 6 (Ew 62 ?_ ?_)
 exact Ab 8 (Pj (Ab 8 (gs (Cv ((i:Int)+1) ((i+1:Nat):Int) ·) (Ab 2 (Fy [0,1,6,7,8] [(0,0),(1,1),(2,2),(3,3),(4,4),(5,5),(6,6),(7,7),(8,8),(9,9)] 10 [] trivial (hJ1 _ _ (by omega:l.n-(i+1)<l.n-i) ⟨i+1,(Ai (iw-1)),v12.2,rfl,ω,rfl⟩))))))
 exact Vm [7,62] hS15
 exact Ab 6 (Vm [7,62] hS15)
 exact Ab 10 (Vm [7,62] hS15)
 refine Ew 52 ?_ ?_
 refine Ab 4 (Ew 56 ?_ ?_)
 refine Ab 6 (Ew 49 ?_ ?_)
 exact Ab 8 (Pj (Ab 8 (gs (Cv ((i:Int)+1) ((i+1:Nat):Int) ·) (Ab 2 (Fy [0,1,6,7,8] [(0,0),(1,1),(2,2),(3,3),(4,4),(5,5),(6,6),(7,7),(8,8),(9,9)] 10 [] trivial (hJ1 _ _ (by omega:l.n-(i+1)<l.n-i) ⟨i+1,(Ai (iw+1)),v12.2,rfl,ω,rfl⟩))))))
 exact Vm [7,10,12,14,49] hS14
 exact Ab 6 (Vm [7,10,12,14,49] hS14)
 exact Ab 10 (Vm [7,10,12,14,49] hS14)
 refine Ew 37 ?_ ?_
 refine Ab 6 (Ew 43 ?_ ?_)
 refine Ab 7 (Ew 48 ?_ ?_)
 exact Ab 9 (Pj (Ab 9 (aN (Ab 3 (Iy (Ab 4 (Sk (.int .i64 0) [.int .i64 v12.2] ⟨rfl,_,rfl⟩)))))))
 exact Vm [6,7,10,12,14,48] hS13
 exact Ab 7 (Vm [6,7,10,12,14,48] hS13)
 exact Ab 13 (Vm [6,7,10,12,14,48] hS13)
 refine Ab 5 (aN (Ab 9 (Ew 76 ?_ ?_)))
 exact Ab 8 (Iy (Ab 4 (Sk (.int .i64 1) [.int .i64 ie] ⟨rfl,_,rfl⟩)))
 exact Ab 9 (Iy (Ab 4 (Sk (.int .i64 (-1)) [.int .i64 ie] ⟨rfl,_,rfl⟩)))
theorem kO (e:Int) (p:Sq) (l:Vs) (h0:l.n<=64):∃v:Value×Int,jO Tryz.prog 153 239 [.int .i64 e] [.int .i64 v.2] [(244,[.lit (.bool p.u.neg),.lit (.string p.u.mag),.lit (.bool p.v.neg),.lit (.string p.v.mag),.lit (.bool p.w.neg),.lit (.string p.w.mag)])] [Cd l,.ptr 0 0,.ptr 1 0] (Hp [.one .i] v.1):=by
 refine Qx (Kz func153 rfl ?_)
 exact Ab 9 (Exists.elim (Ac3 e l p ω) λv1 hv1=>(gs (vcx 0 [] hv1 ·) (Ab 4 (Sk (.int .i64 (gI v1.1)) [.int .i64 v1.2] ⟨rfl,_,rfl⟩))))
theorem AjT (e:Int) (p:Sq) (l:Vs) (h0:l.n<=64):∃v:Value×Int,jO Tryz.prog 202 239 [.int .i64 e] [.int .i64 v.2] [(244,[.lit (.bool p.u.neg),.lit (.string p.u.mag),.lit (.bool p.v.neg),.lit (.string p.v.mag),.lit (.bool p.w.neg),.lit (.string p.w.mag)]),(248,[.fn 153 [.ptr 0 0,.ptr 1 0]])] [Cd l,.ptr 2 0] (Hp [.one .b] v.1):=by
 refine Qx (Kz func202 rfl ?_)
 exact Ab 9 (Exists.elim (kO e p l ω) λv1 hv1=>(gs (vcx 0 [1] hv1 ·) (Ab 5 (Sk (.bool (decide ((0:Int)<(gI v1.1)))) [.int .i64 v1.2] ⟨rfl,_,rfl⟩))))
theorem AjQ (e:Int) (p:Sq) (f:Mi) (h0:Zh f):∃v:Value×Int,jO Tryz.prog 201 239 [.int .i64 e] [.int .i64 v.2] [(244,[.lit (.bool p.u.neg),.lit (.string p.u.mag),.lit (.bool p.v.neg),.lit (.string p.v.mag),.lit (.bool p.w.neg),.lit (.string p.w.mag)]),(248,[.fn 153 [.ptr 0 0,.ptr 1 0]])] [hsA f,.fn 202 [.ptr 2 0]] (Hp [.one .b] v.1):=by
 refine Qx ?_
 have hn8:=h0.1
 have hn9:=h0.2.1
 refine Kz func201 rfl ?_
 refine Ab 9 (cE func234 (Ab 14 (Vl [0,1,7,8] (λm s=>∃q qe,m=f.hn-q/\(q<=f.hn)/\s=⟨[(0,hsA f),(1,.fn 202 [.ptr 2 0]),(7,.int (f.hn:Int)),(8,.int (q:Int))],[(0,.box 239 [.int qe]),(1,.box 244 [.bool p.u.neg,.lit (.string p.u.mag),.bool p.v.neg,.lit (.string p.v.mag),.bool p.w.neg,.lit (.string p.w.mag)]),(2,.box 248 [.fn 153 [.ptr 0 0,.ptr 1 0]])],3,19⟩) (f.hn-0) ⟨0,e,rfl,Nat.zero_le _,κ⟩ ?_)))
 rintro _ _ ⟨q,qe,rfl,hF,rfl⟩ hJ1
 have hnq:=h0.2.2 q
 refine Ab 6 (Hn 9 ((q:Int)<(f.hn:Int)) (λhx2 hx2d=>?_) (λhx2 hx2d=>?_))
 refine Ab 16 (gs (Gu q f.hn ·) (Ab 1 (Exists.elim (AjT qe p (f.h q) ω) λv3 hv3=>(gs (vcx 0 [1,2] hv3 ·) (Ab 2 (Ew 16 ?_ ?_))))))
 exact Ab 13 (Iy (Ab 5 (Sk (.bool (decide ((0:Int)<=(q:Int)))) [.int .i64 v3.2] ⟨rfl,_,rfl⟩)))
 exact Ab 5 (gs (Cv ((q:Int)+1) ((q+1:Nat):Int) ·) (Ab 2 (mH [0,1,7,8] (hJ1 _ _ (by omega:f.hn-(q+1)<f.hn-q) ⟨q+1,v3.2,rfl,ω,rfl⟩))))
 exact Ab 12 (Iy (Ab 5 (Sk (.bool false) [.int .i64 qe] ⟨rfl,_,rfl⟩)))
theorem xL (e:Int) (p:Sq) (f:Mi) (h0:Zh f):∃v:Value×Int,jO Tryz.prog 152 239 [.int .i64 e] [.int .i64 v.2] [(244,[.lit (.bool p.u.neg),.lit (.string p.u.mag),.lit (.bool p.v.neg),.lit (.string p.v.mag),.lit (.bool p.w.neg),.lit (.string p.w.mag)])] [Kk f,.fn 153 [.ptr 0 0,.ptr 1 0]] (Hp [.one .b] v.1):=by
 refine Qx ?_
 have hn8:=h0.1
 have hn9:=h0.2.1
 refine Kz func152 rfl ?_
 refine Ab 12 (Exists.elim (kO e p f.o ω) λv1 hv1=>(gs (vcx 0 [1] hv1 ·) (Ab 2 (Ew 10 ?_ ?_))))
 exact Ab 3 (Exists.elim (AjQ v1.2 p f h0) λv3 hv3=>(gs (vcx 0 [1,3] hv3 ·) (Ab 6 (Sk (.bool (!(gB v3.1))) [.int .i64 v3.2] ⟨rfl,_,rfl⟩))))
 exact Ab 10 (Sk (.bool false) [.int .i64 v1.2] ⟨rfl,_,rfl⟩)
theorem AfP (l:Vs) (h0:l.n<=64):∃r,Gc [.one .i] r/\AF Tryz.prog 192 [Cd l] r:=by
 refine Au func192 rfl ?_
 refine Ab 15 (cE func34 (Ab 13 (Iy (Ab 3 (gs (vnm [2,3,7] ·) (uT func52 λsp2 sp2p sp2a sp2b=>(Ab 8 (Vl [0,1,6,7,8] (λm s=>∃i iw,m=l.n-i/\(i<=l.n)/\s=⟨[(0,.yld 2),(1,.ptr 1 0),(6,Cd l),(7,.int (l.n:Int)),(8,.int (i:Int))],[(0,.box 3 [.int iw]),(1,.box 22 [Cd l]),(2,.loop .ready none sp2 [(2,.int 0),(3,.ptr 0 0),(7,.fn 52 [.ptr 1 0])] 24)],3,35⟩) (l.n-0) ⟨0,0,rfl,Nat.zero_le _,κ⟩ ?_))))))))
 rintro _ _ ⟨i,iw,rfl,hF,rfl⟩ hJ1
 refine Ab 6 (Hn 9 ((i:Int)<(l.n:Int)) (λhx4 hx4d=>?_) (λhx4 hx4d=>?_))
 refine Ab 8 (gs (Gu i l.n ·) (Ab 7 ?_))
 have hm4:=Nat.mod_lt (i+1) (by omega:0<l.n)
 refine gs (Cp [(2,.int ((i+1:Nat):Int),.none),(5,.int (((i+1)%l.n:Nat):Int),.none),(6,Cw (Cd l) ((i+1)%l.n),.none)] [0,1,4,5,6,7,8] ⟨En (.int .i64 (IntKind.wrap .i64 ((i:Int)+1))) η,uD ((i+1:Nat):Int) (l.n:Int) (((i+1)%l.n:Nat):Int) ω rfl,Jn ((i+1)%l.n) l.n,trivial⟩ ·) (Ab 14 (iH sp2p sp2a (Ab 10 (iG sp2b ?_))))
 exact Ab 18 (Pj (Ab 8 (gs (Cv ((i:Int)+1) ((i+1:Nat):Int) ·) (Ab 2 (Fy [0,1,6,7,8] [(0,0),(1,1),(2,2)] 3 [] trivial (hJ1 _ _ (by omega:l.n-(i+1)<l.n-i) ⟨i+1,(Ai (iw+Ai (Ai (((l.f i).x)*((l.f ((i+1)%l.n)).y))-Ai (((l.f i).y)*((l.f ((i+1)%l.n)).x))))),rfl,ω,rfl⟩))))))
 exact Ab 5 (aN (Ab 9 (Bb)))
noncomputable def Aml (l:Vs):Value:=Kp 192 [.one .i] [Cd l]
theorem AeQ (l:Vs) (h0:l.n<=64):AF Tryz.prog 192 [Cd l] (.lit (Hp [.one .i] (Aml l))):=Bi (AfP l h0)
def Agw (a b:Rw):Bool:=(a.neg==b.neg)&&(a.mag==b.mag)
def AcJ (a b:Rr):Bool:=Agw a.num b.num&&Agw a.den b.den
theorem AlG (a b:Rr) (w:World):(Op.equal 221 (.agg #[.bool a.num.neg,.string a.num.mag,.bool a.den.neg,.string a.den.mag]) (.agg #[.bool b.num.neg,.string b.num.mag,.bool b.den.neg,.string b.den.mag])).run Tryz.prog w= .ok (AcJ a b) w:=by
 have e:∀(a b:Rw) (w:World),(Op.equalIn 9999 169 (.agg #[.bool a.neg,.string a.mag]) (.agg #[.bool b.neg,.string b.mag])).run Tryz.prog w= .ok (Agw a b) w:=λa b w=>Abt a.neg b.neg a.mag b.mag w 9997
 have h93:=Tryz.runUnderlying221
 have h91:=isAgg169
 have hs:=sizeOf169
 have hin:Tryz.prog.stoodInHeld 221=false:=κ
 unfold Op.equal
 rw[show Op.maxDepth=9999+1 from rfl]
 unfold Op.equalIn
 simp[h93,part,h91,hs,e,hin]
 unfold AcJ
 cases Agw a.num b.num<;>cases Agw a.den b.den<;>simp
instance:Inhabited V3:=⟨⟨0,0,0⟩⟩
def Agu (v:V3):List Value:=[.int .i64 v.x,.int .i64 v.y,.int .i64 v.z]
theorem AeO (d:Array V3) (hd:d.size<=9223372036854775807):AFW Tryz.prog 193 3 Agu d d.reverse []:=λblk off cap w hH hb=>by
 have h:=AnyQ.slices_Reverse Tryz.laysRev 3 (λw=>by kernel_rfl) (λw=>by kernel_rfl) Agu (λ_=>rfl) (λx v hv=>by
  unfold Agu at hv
  simp at hv
  rcases hv with rfl|rfl|rfl<;>rfl) blk off cap d w hH hd
 refine h.mono ?_
 rintro e w' ⟨rfl,n,rfl⟩
 exact⟨rfl,n,#[],by rw[grow_empty]⟩
def AhW (l:Vs):Vs:=⟨l.n,λk=>if k=0 then l.f 0 else l.f (l.n-k)⟩
def Wa (l:Vs):Array V3:=((List.range (l.n-1)).map λi=>l.f (1+i)).toArray
theorem Ft (l:Vs):(Wa l).size=l.n-1:=by simp[Wa]
theorem uR (l:Vs) (i:Nat) (hi:i<l.n-1):(Wa l)[i]! =l.f (1+i):=by
 rw[getElem!_pos _ i (by rw[Ft];exact hi)]
 simp[Wa]
theorem Aek (l:Vs) (i:Nat) (hi:i<l.n-1):(Wa l).reverse[i]! =(AhW l).f (1+i):=by
 rw[getElem!_pos _ i (by simp[Ft];exact hi)]
 rw[Array.getElem_reverse]
 have h1:(Wa l).size-1-i<l.n-1:=by rw[Ft];omega
 have h2:=uR l _ h1
 rw[getElem!_pos (Wa l) _ (by have:=Ft l;omega)] at h2
 rw[h2]
 show l.f _=if 1+i=0 then l.f 0 else l.f (l.n-(1+i))
 rw[if_neg ω,show 1+((Wa l).size-1-i)=l.n-(1+i) by rw[Ft];omega]
theorem mK (v:V3) (j:Nat) (hj:j<3):(Bf v).cell j= .lit ((Agu v)[j]!):=by
 match j,hj with
 |0,_=>rfl
 |1,_=>rfl
 |2,_=>rfl
theorem AhF {B:Nat} {D0:Ar} {o:Oper} {ev:Operand->AV} {pre:Nat->Option Bc} (x:Operand) (ts:Array TypeId) (id:Nat) (t:TypeId) (l:Vs) (hl:2<=l.n) (hn:l.n<=1000) (ho:o.op= .call { callee:= .value (.func 193),args:=#[x],argTypes:=ts }) (hp:pre id=some (.vec t 3 l.n λi=>Bf (l.f i))) (hx:ev x= .osw id 3 1 (l.n-1)):Dv Tryz.prog B D0 o ev pre (.lit (.tuple #[])) (.set id (.vec t 3 l.n λi=>Bf ((AhW l).f i))):=
 lT 193 #[x] ts ho (λ_ _=>by kernel_rfl) id 3 1 l.n t _ _ hp Agu (Wa l) (Wa l).reverse (by simp) (by rw[Ft];omega) (ev x) (by rw[hx,Ft];exact⟨rfl,rfl,rfl,rfl,ω⟩) [] [] rfl rfl (λi hi=>absurd hi (Nat.not_lt_zero i))
  (λi j hi hj=>by rw[Ft] at hi;rw[uR l i hi];exact mK _ j hj)
  (λi _ h=>by
   rw[Ft] at h
   obtain rfl:i=0:=by omega
   rfl)
  (λi j hi hj=>by rw[Ft] at hi;rw[Aek l i hi];exact mK _ j hj)
  (AeO _ (by rw[Ft];omega))
def fJ (g:Nat->RQ) (n:Nat):Array RQ:=((List.range n).map g).toArray
theorem Ky (g:Nat->RQ) (n:Nat):(fJ g n).size=n:=by simp[fJ]
theorem Ahm (g:Nat->RQ) {n i:Nat} (hi:i<n):(fJ g n)[i]! =g i:=by
 rw[getElem!_pos _ i (by rw[Ky];exact hi)]
 simp[fJ]
noncomputable def Ix (g:Nat->RQ) (n:Nat):Nat->RQ:=λi=>(Abx (fJ g n))[i]!
theorem uI (v:RQ) (j:Nat) (hj:j<4):(Cq v.1).cell j= .lit ((sB v)[j]!):=by
 match j,hj with
 |0,_=>rfl
 |1,_=>rfl
 |2,_=>rfl
 |3,_=>rfl
theorem Ad7 {B:Nat} {D0:Ar} {o:Oper} {ev:Operand->AV} {pre:Nat->Option Bc} (x y:Operand) (ts:Array TypeId) (id:Nat) (t:TypeId) (n:Nat) (g:Nat->RQ) (hn:n<=1000000) (ho:o.op= .call { callee:= .value (.func 143),args:=#[x,y],argTypes:=ts }) (hp:pre id=some (.vec t 4 n λi=>Cq (g i).1)) (hx:ev x= .osl id 4 n) (hy:ev y= .fn 141 []):Dv Tryz.prog B D0 o ev pre (.lit (.tuple #[])) (.set id (.vec t 4 n λi=>Cq (Ix g n i).1)):=
 lT 143 #[x,y] ts ho (λ_ _=>by kernel_rfl) id 4 0 n t _ _ hp sB (fJ g n) (Abx (fJ g n)) (zY _) (by rw[Ky];omega) (ev x) (by rw[hx,Ky];exact⟨rfl,rfl,rfl,rfl⟩) [ev y] [.func (.func 141) #[] #[]] rfl rfl (λi hi E v h=>by
   obtain rfl:i=0:=by simp at hi;exact hi
   have h:VR E (ev y) v:=h
   rw[hy] at h
   cases h with
   |fn _ _ _ vs hn _=>
    have:vs=#[]:=Array.eq_empty_of_size_eq_zero hn
    rw[this];rfl)
  (λi j hi hj=>by rw[Ky] at hi;rw[Ahm g hi,Nat.zero_add];exact uI _ j hj)
  (λi h1 h=>by rw[Ky] at h;omega)
  (λi j hi hj=>by rw[Nat.zero_add];exact uI _ j hj)
  (AbC _ (by rw[Ky];omega))
theorem Qf (n:Int): -9223372036854775808<=Ai n:=by simp[Ai,IntKind.wrap,IntKind.bits,IntKind.signed];omega
theorem Qe (n:Int):Ai n<=9223372036854775807:=by simp[Ai,IntKind.wrap,IntKind.bits,IntKind.signed];omega
theorem AcP {f:Mi} (h0:Zh f) (h:gB (Mn f)=true) (k:Nat) (hk:k<f.hn+1):3<=(Ca f k).n:=by
 have:=(Om (lC f h0)).2 (congrArg AV.bool h)
 cases k with
 |zero=>exact this.1
 |succ k=>exact this.2 k ω
def Ik (g:Nat->RQ) (n:Nat) (v:RQ):Nat->RQ:=λk=>if k<n then g k else v
theorem Us {g:Nat->RQ} {n i:Nat} {v:RQ} (h:i<n):Ik g n v i=g i:=if_pos h
theorem Ur (g:Nat->RQ) (n:Nat) (v:RQ):Ik g n v (n+0)=v:=if_neg ω
theorem AdJ:Vt ⟨⟨decide ((1:Int)<0),Ci 1⟩,⟨decide ((1:Int)<0),Ci 1⟩⟩:=⟨1,1,Eg δ δ,Eg δ δ,δ,rfl⟩
def An8 (g:Nat->RQ) (i:Nat) (v:RQ):Nat->RQ:=λk=>if k=i then v else g k
def Anj (k:Nat):RQ:=if k=0 then ⟨_,gL⟩ else ⟨_,AdJ⟩
theorem AcX (f:Mi) (a b:V3) (h0:Zh f):∃r,Gc [.one .b,.one .i] r/\AF Tryz.prog 106 [Kk f,Bf a,Bf b] r:=by
 have hfok:=h0
 have hn8:=h0.1
 have hn9:=h0.2.1
 refine Au func106 rfl ?_
 refine Ab 13 (gs (Ao (Ql f hfok) ·) (Ab 2 (Ais 24 (gB (Mn f)) (λhx1=>?_) (λhx1=>?_))))
 refine Ab 1 (gs (Ao (Xi a) ·) (Ab 3 (Ew 29 ?_ ?_)))
 exact Ab 15 (Bb)
 refine Ab 1 (gs (Ao (Xi b) ·) (Ab 4 (Ew 33 ?_ ?_)))
 exact Ab 9 (Bb)
 refine Ab 8 (Dy (dT f a h0) λv3 hv3=>(gs (Ao hv3 ·) (Ab 2 (Ew 38 ?_ ?_))))
 exact Ab 16 (Bb)
 refine Ab 2 (Dy (dT f b h0) λv5 hv5=>(gs (Ao hv5 ·) (Ab 4 (Ew 43 ?_ ?_))))
 exact Ab 9 (Bb)
 refine Ab 12 (tsh 8 49 false [3,4,5,6,7,55] ?_ (λhS6=>?_))
 refine Ab 5 (gs (Ao (Er 1 δ δ) ·) (Ab 11 (gs (Kb 4 221 4 2 (λxi=>[.lit (.agg #[.bool false,.string ⟨#[]⟩,.bool (decide ((1:Int)<0)),.string (Ci (1:Int).natAbs)]),.lit (.agg #[.bool (decide ((1:Int)<0)),.string (Ci (1:Int).natAbs),.bool (decide ((1:Int)<0)),.string (Ci (1:Int).natAbs)])].getD xi .top) ·) (Ab 5 (gs (Xc 4 221 4 2 (λxi=>[.lit (.agg #[.bool false,.string ⟨#[]⟩,.bool (decide ((1:Int)<0)),.string (Ci (1:Int).natAbs)]),.lit (.agg #[.bool (decide ((1:Int)<0)),.string (Ci (1:Int).natAbs),.bool (decide ((1:Int)<0)),.string (Ci (1:Int).natAbs)])].getD xi .top) (λxi=>Cq (Anj xi).1) (λx9 hx9=>by(match x9,hx9 with|0,_=>rfl|1,_=>rfl|_+2,h=>exact absurd h ω)) ·) ?_)))))
 have hV:=AcP h0 hx1
 refine Ab 3 (cE func139 (Ab 13 (Iy (Ab 3 (gs (vnm [3,4,5,6,7,8,9,64] ·) (uT func191 λsp8 sp8p sp8a sp8b=>(Ab 9 (gs (Ao (Ql f hfok) ·) (Ab 3 (iA 9 (!(gB (Mn f))) false (nt hx1) (Ab 7 (gs (Kb 9 22 1 1 (λ_=>Cd f.o) ·) (Ab 2 (gs (Cu (.osl 10 1 (1+f.hn)) (.grow 9 10 (.vec 22 1 (1+f.hn) (λxi=>Cd (Ca f xi)))) (fS (.tmp 12) (.tmp 14) 23 κ underlying23 1 24 (.slice none 0 0) κ κ δ sizeOf22 1 f.hn (λ_=>Cd f.o) (λi0=>Cd (f.h i0)) (λxi=>Cd (Ca f xi)) 10 ω (by unfold maxLen;omega) (λi hi=>by(obtain rfl:i=0:=(ω));rfl) (λi hi=>by rw[Nat.add_comm];rfl) (λi hi j hj=>by obtain rfl:j=0:=(ω);rfl) 9 κ κ κ) ·) (Ab 5 (tfg [2,15,16,17] [(0,0),(1,1),(2,2),(3,3),(4,11),(5,5),(6,6),(7,7),(8,8),(10,10)] 12 [(221,4,2,(λxi=>Cq (Anj xi).1)),(22,1,1+f.hn,(λxi=>Cd (Ca f xi)))] ⟨(Ce λ_ _=>rfl),(Ce λ_ _=>rfl),trivial⟩ (Vl [2,15,16,17] (λm s=>∃(i n:Nat) (g:Nat->RQ),m=f.hn+1-i/\(n<=2+128*i/\i<=f.hn+1)/\s=⟨[(2,.ptr 8 0),(15,.osl 10 1 (1+f.hn)),(16,.int ((1+f.hn:Nat):Int)),(17,.int (i:Int))],[(0,.box 25 [Cd f.o,hsA f,.int f.low,.int f.high]),(1,.box 79 [.int a.x,.int a.y,.int a.z]),(2,.box 79 [.int b.x,.int b.y,.int b.z]),(3,.box 169 [.bool (decide ((1:Int)<0)),.lit (.string (Ci (1:Int).natAbs))]),(11,.vec 221 4 n (λxi=>Cq (g xi).1)),(5,.box 231 [.osl 11 4 n]),(6,.box 25 [Cd f.o,hsA f,.int f.low,.int f.high]),(7,.loop .ready none sp8 [(3,.ptr 0 0),(4,.ptr 1 0),(5,.ptr 2 0),(6,.bool false),(7,.int 0),(8,.ptr 3 0),(9,.ptr 5 0),(64,.fn 191 [.ptr 6 0])] 131),(8,.box 115 [.yld 7]),(10,.vec 22 1 (1+f.hn) (λxi=>Cd (Ca f xi)))],12,43⟩) (f.hn+1-0) ⟨0,2,Anj,rfl,⟨ω,ω⟩,κ⟩ ?_)))))))))))))))))
 rintro _ _ ⟨i,n,g,rfl,hF,rfl⟩ hJ1
 have hn1:=Aa5 h0 i
 have hn7:=hV 0 ω
 have hn6:(Ca f 0).n=f.o.n:=rfl
 refine Ab 6 (Hn 18 ((i:Int)<((1+f.hn:Nat):Int)) (λhx10 hx10d=>?_) (λhx10 hx10d=>?_))
 refine Ab 5 ?_
 have hn3:=hV i ω
 refine Ab 3 (gs (Gu i (1+f.hn) ·) (gs (Cu (Cd (Ca f i)) (.read 10) (Qb 22 (.tmp 20) κ isAgg22 10 i 0 1 κ 22 (1+f.hn) (λxi=>Cd (Ca f xi)) κ ω δ) ·) (Ab 8 (Dy (AeQ (Ca f i) ω) λv11 hv11=>(gs (Ao hv11 ·) (Ab 3 (gs (Cz (.bool (!decide (decide ((0:Int)<(gI v11))=decide ((i:Int)=0)))) (.bool (!decide (decide ((0:Int)<(gI v11))=decide ((i:Int)=0)))) ·) (Ab 2 (tjv 3 27 false (λl9:Vs=>⟨[(2,.ptr 8 0),(4,Cd l9),(15,.osl 10 1 (1+f.hn)),(16,.int ((1+f.hn:Nat):Int)),(17,.int (i:Int))],[(0,.box 25 [Cd f.o,hsA f,.int f.low,.int f.high]),(1,.box 79 [.int a.x,.int a.y,.int a.z]),(2,.box 79 [.int b.x,.int b.y,.int b.z]),(3,.box 169 [.bool (decide ((1:Int)<0)),.lit (.string (Ci (1:Int).natAbs))]),(11,.vec 221 4 n (λxi=>Cq (g xi).1)),(5,.box 231 [.osl 11 4 n]),(6,.box 25 [Cd f.o,hsA f,.int f.low,.int f.high]),(7,.loop .ready none sp8 [(3,.ptr 0 0),(4,.ptr 1 0),(5,.ptr 2 0),(6,.bool false),(7,.int 0),(8,.ptr 3 0),(9,.ptr 5 0),(64,.fn 191 [.ptr 6 0])] 131),(8,.box 115 [.yld 7]),(10,.vec 22 1 (1+f.hn) (λxi=>Cd (Ca f xi)))],12,43⟩) (λl9=>l9.n<=64/\3<=l9.n) (λl9 hl9=>?_) (λhJ9=>?_))))))))))
 have hl8:l9.n<=64/\3<=l9.n:=hl9
 refine Ab 3 (cE func34 (Ab 13 (Iy (Ab 3 (gs (vnm [2,15,16,17,34] ·) (uT func52 λsp13 sp13p sp13a sp13b=>(Ab 8 (tfg [0,1,6,7,8] [(0,0),(1,1),(2,2),(3,3),(11,14),(5,5),(6,6),(7,7),(8,8),(10,10),(12,12),(13,13)] 15 [(221,4,n,(λxi=>Cq (g xi).1)),(22,1,1+f.hn,(λxi=>Cd (Ca f xi)))] ⟨(Ce λ_ _=>rfl),(Ce λ_ _=>rfl),trivial⟩ (Vl [0,1,6,7,8] (λm s=>∃(j3 j3n:Nat) (j3g:Nat->RQ),m=l9.n-j3/\(j3n<=2+128*i+2*j3/\j3<=l9.n)/\s=⟨[(0,.yld 13),(1,.ptr 12 0),(6,Cd l9),(7,.int ((l9.n:Nat):Int)),(8,.int ((j3:Nat):Int))],[(0,.box 25 [Cd f.o,hsA f,.int f.low,.int f.high]),(1,.box 79 [.int a.x,.int a.y,.int a.z]),(2,.box 79 [.int b.x,.int b.y,.int b.z]),(3,.box 169 [.bool (decide ((1:Int)<0)),.lit (.string (Ci (1:Int).natAbs))]),(14,.vec 221 4 j3n (λxi=>Cq (j3g xi).1)),(5,.box 231 [.osl 14 4 j3n]),(6,.box 25 [Cd f.o,hsA f,.int f.low,.int f.high]),(7,.loop .ready none sp8 [(3,.ptr 0 0),(4,.ptr 1 0),(5,.ptr 2 0),(6,.bool false),(7,.int 0),(8,.ptr 3 0),(9,.ptr 5 0),(64,.fn 191 [.ptr 6 0])] 131),(8,.box 115 [.yld 7]),(10,.vec 22 1 (1+f.hn) (λxi=>Cd (Ca f xi))),(12,.box 22 [Cd l9]),(13,.loop .ready none sp13 [(2,.ptr 8 0),(15,.osl 10 1 (1+f.hn)),(16,.int ((1+f.hn:Nat):Int)),(17,.int (i:Int)),(34,.fn 52 [.ptr 12 0])] 43)],15,35⟩) (l9.n-0) ⟨0,n,g,rfl,⟨ω,ω⟩,κ⟩ ?_)))))))))
 rintro _ _ ⟨j3,j3n,j3g,rfl,hF,rfl⟩ hJ2
 refine Ab 6 (Hn 9 (((j3:Nat):Int)<((l9.n:Nat):Int)) (λhx15 hx15d=>?_) (λhx15 hx15d=>?_))
 refine Ab 8 (gs (Gu j3 l9.n ·) (Ab 7 ?_))
 have hm15:=Nat.mod_lt (j3+1) (by omega:0<l9.n)
 refine gs (Cp [(2,.int ((j3+1:Nat):Int),.none),(5,.int (((j3+1)%l9.n:Nat):Int),.none),(6,Cw (Cd l9) ((j3+1)%l9.n),.none)] [0,1,4,5,6,7,8] ⟨En (.int .i64 (IntKind.wrap .i64 (((j3:Nat):Int)+1))) η,uD ((j3+1:Nat):Int) ((l9.n:Nat):Int) (((j3+1)%l9.n:Nat):Int) ω rfl,Jn ((j3+1)%l9.n) l9.n,trivial⟩ ·) (Ab 14 (iH sp13p sp13a (Ab 10 (iG sp13b ?_))))
 refine Ab 6 (iH sp8p sp8a (Ab 10 (iG sp8b ?_)))
 refine Ab 7 (cE func140 (Ab 17 (gs (Cp [] [5,6,7,8,9,11,12,13] trivial ·) (Ab 28 (Ew 42 ?_ ?_)))))
 refine Ab 29 (gs (Kb 26 287 2 1 (λ_=> .lit (.agg #[.int .i64 (Ai (Ai ((Ai ((l9.f j3).x-a.x))*(Ai ((l9.f ((j3+1)%l9.n)).y-(l9.f j3).y)))-Ai ((Ai ((l9.f j3).y-a.y))*(Ai ((l9.f ((j3+1)%l9.n)).x-(l9.f j3).x))))),.int .i64 (Ai (Ai ((Ai (b.x-a.x))*(Ai ((l9.f ((j3+1)%l9.n)).y-(l9.f j3).y)))-Ai ((Ai (b.y-a.y))*(Ai ((l9.f ((j3+1)%l9.n)).x-(l9.f j3).x)))))])) ·) (uS func194 (Ab 8 (gs (Sv 3 ·) (Ab 13 (gs (Gu 0 1 ·) (gs (Cu (.lit (.agg #[.int .i64 (Ai (Ai ((Ai ((l9.f j3).x-a.x))*(Ai ((l9.f ((j3+1)%l9.n)).y-(l9.f j3).y)))-Ai ((Ai ((l9.f j3).y-a.y))*(Ai ((l9.f ((j3+1)%l9.n)).x-(l9.f j3).x))))),.int .i64 (Ai (Ai ((Ai (b.x-a.x))*(Ai ((l9.f ((j3+1)%l9.n)).y-(l9.f j3).y)))-Ai ((Ai (b.y-a.y))*(Ai ((l9.f ((j3+1)%l9.n)).x-(l9.f j3).x)))))])) (.read 26) (Bg 287 (.tmp 11) κ isAgg287 2 sizeOf287 26 0 κ 287 1 (λ_=> .lit (.agg #[.int .i64 (Ai (Ai ((Ai ((l9.f j3).x-a.x))*(Ai ((l9.f ((j3+1)%l9.n)).y-(l9.f j3).y)))-Ai ((Ai ((l9.f j3).y-a.y))*(Ai ((l9.f ((j3+1)%l9.n)).x-(l9.f j3).x))))),.int .i64 (Ai (Ai ((Ai (b.x-a.x))*(Ai ((l9.f ((j3+1)%l9.n)).y-(l9.f j3).y)))-Ai ((Ai (b.y-a.y))*(Ai ((l9.f ((j3+1)%l9.n)).x-(l9.f j3).x)))))])) κ ω) ·) (Ab 10 (Exists.elim (gO (Ai (Ai ((Ai ((l9.f j3).x-a.x))*(Ai ((l9.f ((j3+1)%l9.n)).y-(l9.f j3).y)))-Ai ((Ai ((l9.f j3).y-a.y))*(Ai ((l9.f ((j3+1)%l9.n)).x-(l9.f j3).x))))) (Ai (Ai ((Ai (b.x-a.x))*(Ai ((l9.f ((j3+1)%l9.n)).y-(l9.f j3).y)))-Ai ((Ai (b.y-a.y))*(Ai ((l9.f ((j3+1)%l9.n)).x-(l9.f j3).x))))) (Qf (Ai ((Ai ((l9.f j3).x-a.x))*(Ai ((l9.f ((j3+1)%l9.n)).y-(l9.f j3).y)))-Ai ((Ai ((l9.f j3).y-a.y))*(Ai ((l9.f ((j3+1)%l9.n)).x-(l9.f j3).x))))) (Qe (Ai ((Ai ((l9.f j3).x-a.x))*(Ai ((l9.f ((j3+1)%l9.n)).y-(l9.f j3).y)))-Ai ((Ai ((l9.f j3).y-a.y))*(Ai ((l9.f ((j3+1)%l9.n)).x-(l9.f j3).x))))) (Qf (Ai ((Ai (b.x-a.x))*(Ai ((l9.f ((j3+1)%l9.n)).y-(l9.f j3).y)))-Ai ((Ai (b.y-a.y))*(Ai ((l9.f ((j3+1)%l9.n)).x-(l9.f j3).x))))) (Qe (Ai ((Ai (b.x-a.x))*(Ai ((l9.f ((j3+1)%l9.n)).y-(l9.f j3).y)))-Ai ((Ai (b.y-a.y))*(Ai ((l9.f ((j3+1)%l9.n)).x-(l9.f j3).x)))))) λv21 hv21=>(gs (Ao hv21.2 ·) (Ab 13 (Hn 23 (v21.2=0) (λhx22 hx22d=>?_) (λhx22 hx22d=>?_)))))))))))))
 refine Ab 2 (Dy (Io v21.1.num) λv23 hv23=>(gs (Ao hv23 ·) (Ab 3 (tsh 9 29 false [1,5,7,8,9,36] ?_ (λhS24=>?_)))))
 exact Ab 20 (Iy (Ab 10 (Iy (Ab 3 (Pj (Ab 6 (Pj (Ab 8 (gs (Cv (((j3:Nat):Int)+1) ((j3+1:Nat):Int) ·) (Ab 2 (Fy [0,1,6,7,8] [(0,0),(1,1),(2,2),(3,3),(14,14),(5,5),(6,6),(7,7),(8,8),(10,10),(12,12),(13,13)] 15 [(221,4,j3n,(λxi=>Cq (j3g xi).1)),(22,1,1+f.hn,(λxi=>Cd (Ca f xi))),(287,2,1,(λ_=> .lit (.agg #[.int .i64 (Ai (Ai ((Ai ((l9.f j3).x-a.x))*(Ai ((l9.f ((j3+1)%l9.n)).y-(l9.f j3).y)))-Ai ((Ai ((l9.f j3).y-a.y))*(Ai ((l9.f ((j3+1)%l9.n)).x-(l9.f j3).x))))),.int .i64 (Ai (Ai ((Ai (b.x-a.x))*(Ai ((l9.f ((j3+1)%l9.n)).y-(l9.f j3).y)))-Ai ((Ai (b.y-a.y))*(Ai ((l9.f ((j3+1)%l9.n)).x-(l9.f j3).x)))))])))] ⟨(Ce λ_ _=>rfl),(Ce λ_ _=>rfl),(Ce λ_ _=>rfl),trivial⟩ (hJ2 _ _ (by omega:l9.n-(j3+1)<l9.n-j3) ⟨j3+1,j3n,j3g,rfl,⟨ω,ω⟩,rfl⟩))))))))))))
 refine Ew 29 ?_ ?_
 refine Ab 4 (Dy (Tj v21.1.num v21.1.den) λv25 hv25=>(gs (Ao hv25 ·) (Ab 4 (Ew 36 ?_ ?_))))
 exact Ab 4 (gs (Kb 29 221 4 1 (λ_=>Cq v21.1) ·) (gs (Mt 48 221 221 4 j3n 1 14 29 30 (λxi=>Cq (j3g xi).1) (λ_=>Cq v21.1) (λxi=>Cq (Ik j3g j3n ⟨v21.1,hv21.1 (of_decide_eq_true hx22)⟩ xi).1) (λi hi=>by rw[Us hi]) (λi hi=>by(obtain rfl:i=0:=(ω));rw[Ur]) ·) (Ab 20 (Iy (Ab 10 (Iy (Ab 3 (Pj (Ab 6 (Pj (Ab 8 (gs (Cv (((j3:Nat):Int)+1) ((j3+1:Nat):Int) ·) (Ab 2 (Fy [0,1,6,7,8] [(0,0),(1,1),(2,2),(3,3),(30,14),(5,5),(6,6),(7,7),(8,8),(10,10),(12,12),(13,13)] 15 [(22,1,1+f.hn,(λxi=>Cd (Ca f xi))),(287,2,1,(λ_=> .lit (.agg #[.int .i64 (Ai (Ai ((Ai ((l9.f j3).x-a.x))*(Ai ((l9.f ((j3+1)%l9.n)).y-(l9.f j3).y)))-Ai ((Ai ((l9.f j3).y-a.y))*(Ai ((l9.f ((j3+1)%l9.n)).x-(l9.f j3).x))))),.int .i64 (Ai (Ai ((Ai (b.x-a.x))*(Ai ((l9.f ((j3+1)%l9.n)).y-(l9.f j3).y)))-Ai ((Ai (b.y-a.y))*(Ai ((l9.f ((j3+1)%l9.n)).x-(l9.f j3).x)))))]))),(221,4,1,(λ_=>Cq v21.1)),(221,4,j3n+1,(λxi=>Cq (Ik j3g j3n ⟨v21.1,hv21.1 (of_decide_eq_true hx22)⟩ xi).1))] ⟨(Ce λ_ _=>rfl),(Ce λ_ _=>rfl),(Ce λ_ _=>rfl),(Ce λ_ _=>rfl),trivial⟩ (hJ2 _ _ (by omega:l9.n-(j3+1)<l9.n-j3) ⟨j3+1,j3n+1,Ik j3g j3n ⟨v21.1,hv21.1 (of_decide_eq_true hx22)⟩,rfl,⟨ω,ω⟩,rfl⟩)))))))))))))))
 exact Vm [1,5,7,8,9,36] hS24
 exact Ab 9 (Vm [1,5,7,8,9,36] hS24)
 exact Ab 35 (Iy (Ab 10 (Iy (Ab 3 (Pj (Ab 6 (Pj (Ab 8 (gs (Cv (((j3:Nat):Int)+1) ((j3+1:Nat):Int) ·) (Ab 2 (Fy [0,1,6,7,8] [(0,0),(1,1),(2,2),(3,3),(14,14),(5,5),(6,6),(7,7),(8,8),(10,10),(12,12),(13,13)] 15 [(221,4,j3n,(λxi=>Cq (j3g xi).1)),(22,1,1+f.hn,(λxi=>Cd (Ca f xi))),(287,2,1,(λ_=> .lit (.agg #[.int .i64 (Ai (Ai ((Ai ((l9.f j3).x-a.x))*(Ai ((l9.f ((j3+1)%l9.n)).y-(l9.f j3).y)))-Ai ((Ai ((l9.f j3).y-a.y))*(Ai ((l9.f ((j3+1)%l9.n)).x-(l9.f j3).x))))),.int .i64 (Ai (Ai ((Ai (b.x-a.x))*(Ai ((l9.f ((j3+1)%l9.n)).y-(l9.f j3).y)))-Ai ((Ai (b.y-a.y))*(Ai ((l9.f ((j3+1)%l9.n)).x-(l9.f j3).x)))))])))] ⟨(Ce λ_ _=>rfl),(Ce λ_ _=>rfl),(Ce λ_ _=>rfl),trivial⟩ (hJ2 _ _ (by omega:l9.n-(j3+1)<l9.n-j3) ⟨j3+1,j3n,j3g,rfl,⟨ω,ω⟩,rfl⟩))))))))))))
 refine Ab 9 (Dy (Nd a b (⟨(l9.f j3).x,(l9.f j3).y,0⟩)) λv26 hv26=>(gs (Ao hv26 ·) (Ab 3 (Ew 76 ?_ ?_))))
 refine Ab 49 (gs (Kb 26 287 2 2 (λxi=>[.lit (.agg #[.int .i64 (Ai (Ai ((Ai (b.x-a.x))*(Ai ((l9.f j3).x-a.x)))+Ai ((Ai (b.y-a.y))*(Ai ((l9.f j3).y-a.y))))),.int .i64 (Ai (Ai ((Ai (b.x-a.x))*(Ai (b.x-a.x)))+Ai ((Ai (b.y-a.y))*(Ai (b.y-a.y)))))]),.lit (.agg #[.int .i64 (Ai (Ai ((Ai (b.x-a.x))*(Ai ((l9.f ((j3+1)%l9.n)).x-a.x)))+Ai ((Ai (b.y-a.y))*(Ai ((l9.f ((j3+1)%l9.n)).y-a.y))))),.int .i64 (Ai (Ai ((Ai (b.x-a.x))*(Ai (b.x-a.x)))+Ai ((Ai (b.y-a.y))*(Ai (b.y-a.y)))))])].getD xi .top) ·) (uS func194 (Ab 8 (gs (Sv 3 ·) (Ab 13 (gs (Gu 0 2 ·) (gs (Cu (.lit (.agg #[.int .i64 (Ai (Ai ((Ai (b.x-a.x))*(Ai ((l9.f j3).x-a.x)))+Ai ((Ai (b.y-a.y))*(Ai ((l9.f j3).y-a.y))))),.int .i64 (Ai (Ai ((Ai (b.x-a.x))*(Ai (b.x-a.x)))+Ai ((Ai (b.y-a.y))*(Ai (b.y-a.y)))))])) (.read 26) (Bg 287 (.tmp 11) κ isAgg287 2 sizeOf287 26 0 κ 287 2 (λxi=>[.lit (.agg #[.int .i64 (Ai (Ai ((Ai (b.x-a.x))*(Ai ((l9.f j3).x-a.x)))+Ai ((Ai (b.y-a.y))*(Ai ((l9.f j3).y-a.y))))),.int .i64 (Ai (Ai ((Ai (b.x-a.x))*(Ai (b.x-a.x)))+Ai ((Ai (b.y-a.y))*(Ai (b.y-a.y)))))]),.lit (.agg #[.int .i64 (Ai (Ai ((Ai (b.x-a.x))*(Ai ((l9.f ((j3+1)%l9.n)).x-a.x)))+Ai ((Ai (b.y-a.y))*(Ai ((l9.f ((j3+1)%l9.n)).y-a.y))))),.int .i64 (Ai (Ai ((Ai (b.x-a.x))*(Ai (b.x-a.x)))+Ai ((Ai (b.y-a.y))*(Ai (b.y-a.y)))))])].getD xi .top) κ ω) ·) (Ab 10 (Exists.elim (gO (Ai (Ai ((Ai (b.x-a.x))*(Ai ((l9.f j3).x-a.x)))+Ai ((Ai (b.y-a.y))*(Ai ((l9.f j3).y-a.y))))) (Ai (Ai ((Ai (b.x-a.x))*(Ai (b.x-a.x)))+Ai ((Ai (b.y-a.y))*(Ai (b.y-a.y))))) (Qf (Ai ((Ai (b.x-a.x))*(Ai ((l9.f j3).x-a.x)))+Ai ((Ai (b.y-a.y))*(Ai ((l9.f j3).y-a.y))))) (Qe (Ai ((Ai (b.x-a.x))*(Ai ((l9.f j3).x-a.x)))+Ai ((Ai (b.y-a.y))*(Ai ((l9.f j3).y-a.y))))) (Qf (Ai ((Ai (b.x-a.x))*(Ai (b.x-a.x)))+Ai ((Ai (b.y-a.y))*(Ai (b.y-a.y))))) (Qe (Ai ((Ai (b.x-a.x))*(Ai (b.x-a.x)))+Ai ((Ai (b.y-a.y))*(Ai (b.y-a.y)))))) λv28 hv28=>(gs (Ao hv28.2 ·) (Ab 13 (Hn 23 (v28.2=0) (λhx29 hx29d=>?_) (λhx29 hx29d=>?_)))))))))))))
 refine Ab 2 (Dy (Io v28.1.num) λv30 hv30=>(gs (Ao hv30 ·) (Ab 3 (tsh 9 29 false [1,5,7,8,9,36] ?_ (λhS31=>?_)))))
 refine Ab 22 (gs (Gu 1 2 ·) (gs (Cu (.lit (.agg #[.int .i64 (Ai (Ai ((Ai (b.x-a.x))*(Ai ((l9.f ((j3+1)%l9.n)).x-a.x)))+Ai ((Ai (b.y-a.y))*(Ai ((l9.f ((j3+1)%l9.n)).y-a.y))))),.int .i64 (Ai (Ai ((Ai (b.x-a.x))*(Ai (b.x-a.x)))+Ai ((Ai (b.y-a.y))*(Ai (b.y-a.y)))))])) (.read 26) (Bg 287 (.tmp 11) κ isAgg287 2 sizeOf287 26 1 κ 287 2 (λxi=>[.lit (.agg #[.int .i64 (Ai (Ai ((Ai (b.x-a.x))*(Ai ((l9.f j3).x-a.x)))+Ai ((Ai (b.y-a.y))*(Ai ((l9.f j3).y-a.y))))),.int .i64 (Ai (Ai ((Ai (b.x-a.x))*(Ai (b.x-a.x)))+Ai ((Ai (b.y-a.y))*(Ai (b.y-a.y)))))]),.lit (.agg #[.int .i64 (Ai (Ai ((Ai (b.x-a.x))*(Ai ((l9.f ((j3+1)%l9.n)).x-a.x)))+Ai ((Ai (b.y-a.y))*(Ai ((l9.f ((j3+1)%l9.n)).y-a.y))))),.int .i64 (Ai (Ai ((Ai (b.x-a.x))*(Ai (b.x-a.x)))+Ai ((Ai (b.y-a.y))*(Ai (b.y-a.y)))))])].getD xi .top) κ ω) ·) (Ab 10 (Exists.elim (gO (Ai (Ai ((Ai (b.x-a.x))*(Ai ((l9.f ((j3+1)%l9.n)).x-a.x)))+Ai ((Ai (b.y-a.y))*(Ai ((l9.f ((j3+1)%l9.n)).y-a.y))))) (Ai (Ai ((Ai (b.x-a.x))*(Ai (b.x-a.x)))+Ai ((Ai (b.y-a.y))*(Ai (b.y-a.y))))) (Qf (Ai ((Ai (b.x-a.x))*(Ai ((l9.f ((j3+1)%l9.n)).x-a.x)))+Ai ((Ai (b.y-a.y))*(Ai ((l9.f ((j3+1)%l9.n)).y-a.y))))) (Qe (Ai ((Ai (b.x-a.x))*(Ai ((l9.f ((j3+1)%l9.n)).x-a.x)))+Ai ((Ai (b.y-a.y))*(Ai ((l9.f ((j3+1)%l9.n)).y-a.y))))) (Qf (Ai ((Ai (b.x-a.x))*(Ai (b.x-a.x)))+Ai ((Ai (b.y-a.y))*(Ai (b.y-a.y))))) (Qe (Ai ((Ai (b.x-a.x))*(Ai (b.x-a.x)))+Ai ((Ai (b.y-a.y))*(Ai (b.y-a.y)))))) λv32 hv32=>(gs (Ao hv32.2 ·) (Ab 13 (Hn 23 (v32.2=0) (λhx33 hx33d=>?_) (λhx33 hx33d=>?_))))))))
 refine Ab 2 (Dy (Io v32.1.num) λv34 hv34=>(gs (Ao hv34 ·) (Ab 3 (tsh 9 29 false [1,5,7,8,9,36] ?_ (λhS35=>?_)))))
 exact Ab 20 (Iy (Ab 9 (Iy (Ab 3 (Pj (Ab 6 (Pj (Ab 8 (gs (Cv (((j3:Nat):Int)+1) ((j3+1:Nat):Int) ·) (Ab 2 (Fy [0,1,6,7,8] [(0,0),(1,1),(2,2),(3,3),(14,14),(5,5),(6,6),(7,7),(8,8),(10,10),(12,12),(13,13)] 15 [(221,4,j3n,(λxi=>Cq (j3g xi).1)),(22,1,1+f.hn,(λxi=>Cd (Ca f xi))),(287,2,2,(λxi=>[.lit (.agg #[.int .i64 (Ai (Ai ((Ai (b.x-a.x))*(Ai ((l9.f j3).x-a.x)))+Ai ((Ai (b.y-a.y))*(Ai ((l9.f j3).y-a.y))))),.int .i64 (Ai (Ai ((Ai (b.x-a.x))*(Ai (b.x-a.x)))+Ai ((Ai (b.y-a.y))*(Ai (b.y-a.y)))))]),.lit (.agg #[.int .i64 (Ai (Ai ((Ai (b.x-a.x))*(Ai ((l9.f ((j3+1)%l9.n)).x-a.x)))+Ai ((Ai (b.y-a.y))*(Ai ((l9.f ((j3+1)%l9.n)).y-a.y))))),.int .i64 (Ai (Ai ((Ai (b.x-a.x))*(Ai (b.x-a.x)))+Ai ((Ai (b.y-a.y))*(Ai (b.y-a.y)))))])].getD xi .top))] ⟨(Ce λ_ _=>rfl),(Ce λ_ _=>rfl),(Ce λi hi=>by match i,hi with|0,_=>rfl|1,_=>rfl|_+2,h=>exact absurd h ω),trivial⟩ (hJ2 _ _ (by omega:l9.n-(j3+1)<l9.n-j3) ⟨j3+1,j3n,j3g,rfl,⟨ω,ω⟩,rfl⟩))))))))))))
 refine Ew 29 ?_ ?_
 refine Ab 4 (Dy (Tj v32.1.num v32.1.den) λv36 hv36=>(gs (Ao hv36 ·) (Ab 4 (Ew 36 ?_ ?_))))
 exact Ab 4 (gs (Kb 31 221 4 1 (λ_=>Cq v32.1) ·) (gs (Mt 48 221 221 4 j3n 1 14 31 32 (λxi=>Cq (j3g xi).1) (λ_=>Cq v32.1) (λxi=>Cq (Ik j3g j3n ⟨v32.1,hv32.1 (of_decide_eq_true hx33)⟩ xi).1) (λi hi=>by rw[Us hi]) (λi hi=>by(obtain rfl:i=0:=(ω));rw[Ur]) ·) (Ab 20 (Iy (Ab 9 (Iy (Ab 3 (Pj (Ab 6 (Pj (Ab 8 (gs (Cv (((j3:Nat):Int)+1) ((j3+1:Nat):Int) ·) (Ab 2 (Fy [0,1,6,7,8] [(0,0),(1,1),(2,2),(3,3),(32,14),(5,5),(6,6),(7,7),(8,8),(10,10),(12,12),(13,13)] 15 [(22,1,1+f.hn,(λxi=>Cd (Ca f xi))),(287,2,2,(λxi=>[.lit (.agg #[.int .i64 (Ai (Ai ((Ai (b.x-a.x))*(Ai ((l9.f j3).x-a.x)))+Ai ((Ai (b.y-a.y))*(Ai ((l9.f j3).y-a.y))))),.int .i64 (Ai (Ai ((Ai (b.x-a.x))*(Ai (b.x-a.x)))+Ai ((Ai (b.y-a.y))*(Ai (b.y-a.y)))))]),.lit (.agg #[.int .i64 (Ai (Ai ((Ai (b.x-a.x))*(Ai ((l9.f ((j3+1)%l9.n)).x-a.x)))+Ai ((Ai (b.y-a.y))*(Ai ((l9.f ((j3+1)%l9.n)).y-a.y))))),.int .i64 (Ai (Ai ((Ai (b.x-a.x))*(Ai (b.x-a.x)))+Ai ((Ai (b.y-a.y))*(Ai (b.y-a.y)))))])].getD xi .top)),(221,4,1,(λ_=>Cq v32.1)),(221,4,j3n+1,(λxi=>Cq (Ik j3g j3n ⟨v32.1,hv32.1 (of_decide_eq_true hx33)⟩ xi).1))] ⟨(Ce λ_ _=>rfl),(Ce λi hi=>by match i,hi with|0,_=>rfl|1,_=>rfl|_+2,h=>exact absurd h ω),(Ce λ_ _=>rfl),(Ce λ_ _=>rfl),trivial⟩ (hJ2 _ _ (by omega:l9.n-(j3+1)<l9.n-j3) ⟨j3+1,j3n+1,Ik j3g j3n ⟨v32.1,hv32.1 (of_decide_eq_true hx33)⟩,rfl,⟨ω,ω⟩,rfl⟩)))))))))))))))
 exact Vm [1,5,7,8,9,36] hS35
 exact Ab 9 (Vm [1,5,7,8,9,36] hS35)
 exact Ab 35 (Iy (Ab 9 (Iy (Ab 3 (Pj (Ab 6 (Pj (Ab 8 (gs (Cv (((j3:Nat):Int)+1) ((j3+1:Nat):Int) ·) (Ab 2 (Fy [0,1,6,7,8] [(0,0),(1,1),(2,2),(3,3),(14,14),(5,5),(6,6),(7,7),(8,8),(10,10),(12,12),(13,13)] 15 [(221,4,j3n,(λxi=>Cq (j3g xi).1)),(22,1,1+f.hn,(λxi=>Cd (Ca f xi))),(287,2,2,(λxi=>[.lit (.agg #[.int .i64 (Ai (Ai ((Ai (b.x-a.x))*(Ai ((l9.f j3).x-a.x)))+Ai ((Ai (b.y-a.y))*(Ai ((l9.f j3).y-a.y))))),.int .i64 (Ai (Ai ((Ai (b.x-a.x))*(Ai (b.x-a.x)))+Ai ((Ai (b.y-a.y))*(Ai (b.y-a.y)))))]),.lit (.agg #[.int .i64 (Ai (Ai ((Ai (b.x-a.x))*(Ai ((l9.f ((j3+1)%l9.n)).x-a.x)))+Ai ((Ai (b.y-a.y))*(Ai ((l9.f ((j3+1)%l9.n)).y-a.y))))),.int .i64 (Ai (Ai ((Ai (b.x-a.x))*(Ai (b.x-a.x)))+Ai ((Ai (b.y-a.y))*(Ai (b.y-a.y)))))])].getD xi .top))] ⟨(Ce λ_ _=>rfl),(Ce λ_ _=>rfl),(Ce λi hi=>by match i,hi with|0,_=>rfl|1,_=>rfl|_+2,h=>exact absurd h ω),trivial⟩ (hJ2 _ _ (by omega:l9.n-(j3+1)<l9.n-j3) ⟨j3+1,j3n,j3g,rfl,⟨ω,ω⟩,rfl⟩))))))))))))
 refine Ew 29 ?_ ?_
 refine Ab 4 (Dy (Tj v28.1.num v28.1.den) λv37 hv37=>(gs (Ao hv37 ·) (Ab 4 (Ew 36 ?_ ?_))))
 refine Ab 4 (gs (Kb 29 221 4 1 (λ_=>Cq v28.1) ·) (gs (Mt 48 221 221 4 j3n 1 14 29 30 (λxi=>Cq (j3g xi).1) (λ_=>Cq v28.1) (λxi=>Cq (Ik j3g j3n ⟨v28.1,hv28.1 (of_decide_eq_true hx29)⟩ xi).1) (λi hi=>by rw[Us hi]) (λi hi=>by(obtain rfl:i=0:=(ω));rw[Ur]) ·) (Ab 22 (gs (Gu 1 2 ·) (gs (Cu (.lit (.agg #[.int .i64 (Ai (Ai ((Ai (b.x-a.x))*(Ai ((l9.f ((j3+1)%l9.n)).x-a.x)))+Ai ((Ai (b.y-a.y))*(Ai ((l9.f ((j3+1)%l9.n)).y-a.y))))),.int .i64 (Ai (Ai ((Ai (b.x-a.x))*(Ai (b.x-a.x)))+Ai ((Ai (b.y-a.y))*(Ai (b.y-a.y)))))])) (.read 26) (Bg 287 (.tmp 11) κ isAgg287 2 sizeOf287 26 1 κ 287 2 (λxi=>[.lit (.agg #[.int .i64 (Ai (Ai ((Ai (b.x-a.x))*(Ai ((l9.f j3).x-a.x)))+Ai ((Ai (b.y-a.y))*(Ai ((l9.f j3).y-a.y))))),.int .i64 (Ai (Ai ((Ai (b.x-a.x))*(Ai (b.x-a.x)))+Ai ((Ai (b.y-a.y))*(Ai (b.y-a.y)))))]),.lit (.agg #[.int .i64 (Ai (Ai ((Ai (b.x-a.x))*(Ai ((l9.f ((j3+1)%l9.n)).x-a.x)))+Ai ((Ai (b.y-a.y))*(Ai ((l9.f ((j3+1)%l9.n)).y-a.y))))),.int .i64 (Ai (Ai ((Ai (b.x-a.x))*(Ai (b.x-a.x)))+Ai ((Ai (b.y-a.y))*(Ai (b.y-a.y)))))])].getD xi .top) κ ω) ·) (Ab 10 (Exists.elim (gO (Ai (Ai ((Ai (b.x-a.x))*(Ai ((l9.f ((j3+1)%l9.n)).x-a.x)))+Ai ((Ai (b.y-a.y))*(Ai ((l9.f ((j3+1)%l9.n)).y-a.y))))) (Ai (Ai ((Ai (b.x-a.x))*(Ai (b.x-a.x)))+Ai ((Ai (b.y-a.y))*(Ai (b.y-a.y))))) (Qf (Ai ((Ai (b.x-a.x))*(Ai ((l9.f ((j3+1)%l9.n)).x-a.x)))+Ai ((Ai (b.y-a.y))*(Ai ((l9.f ((j3+1)%l9.n)).y-a.y))))) (Qe (Ai ((Ai (b.x-a.x))*(Ai ((l9.f ((j3+1)%l9.n)).x-a.x)))+Ai ((Ai (b.y-a.y))*(Ai ((l9.f ((j3+1)%l9.n)).y-a.y))))) (Qf (Ai ((Ai (b.x-a.x))*(Ai (b.x-a.x)))+Ai ((Ai (b.y-a.y))*(Ai (b.y-a.y))))) (Qe (Ai ((Ai (b.x-a.x))*(Ai (b.x-a.x)))+Ai ((Ai (b.y-a.y))*(Ai (b.y-a.y)))))) λv38 hv38=>(gs (Ao hv38.2 ·) (Ab 13 (Hn 23 (v38.2=0) (λhx39 hx39d=>?_) (λhx39 hx39d=>?_)))))))))))
 refine Ab 2 (Dy (Io v38.1.num) λv40 hv40=>(gs (Ao hv40 ·) (Ab 3 (tsh 9 29 false [1,5,7,8,9,36] ?_ (λhS41=>?_)))))
 exact Ab 20 (Iy (Ab 9 (Iy (Ab 3 (Pj (Ab 6 (Pj (Ab 8 (gs (Cv (((j3:Nat):Int)+1) ((j3+1:Nat):Int) ·) (Ab 2 (Fy [0,1,6,7,8] [(0,0),(1,1),(2,2),(3,3),(30,14),(5,5),(6,6),(7,7),(8,8),(10,10),(12,12),(13,13)] 15 [(22,1,1+f.hn,(λxi=>Cd (Ca f xi))),(287,2,2,(λxi=>[.lit (.agg #[.int .i64 (Ai (Ai ((Ai (b.x-a.x))*(Ai ((l9.f j3).x-a.x)))+Ai ((Ai (b.y-a.y))*(Ai ((l9.f j3).y-a.y))))),.int .i64 (Ai (Ai ((Ai (b.x-a.x))*(Ai (b.x-a.x)))+Ai ((Ai (b.y-a.y))*(Ai (b.y-a.y)))))]),.lit (.agg #[.int .i64 (Ai (Ai ((Ai (b.x-a.x))*(Ai ((l9.f ((j3+1)%l9.n)).x-a.x)))+Ai ((Ai (b.y-a.y))*(Ai ((l9.f ((j3+1)%l9.n)).y-a.y))))),.int .i64 (Ai (Ai ((Ai (b.x-a.x))*(Ai (b.x-a.x)))+Ai ((Ai (b.y-a.y))*(Ai (b.y-a.y)))))])].getD xi .top)),(221,4,1,(λ_=>Cq v28.1)),(221,4,j3n+1,(λxi=>Cq (Ik j3g j3n ⟨v28.1,hv28.1 (of_decide_eq_true hx29)⟩ xi).1))] ⟨(Ce λ_ _=>rfl),(Ce λi hi=>by match i,hi with|0,_=>rfl|1,_=>rfl|_+2,h=>exact absurd h ω),(Ce λ_ _=>rfl),(Ce λ_ _=>rfl),trivial⟩ (hJ2 _ _ (by omega:l9.n-(j3+1)<l9.n-j3) ⟨j3+1,j3n+1,Ik j3g j3n ⟨v28.1,hv28.1 (of_decide_eq_true hx29)⟩,rfl,⟨ω,ω⟩,rfl⟩))))))))))))
 refine Ew 29 ?_ ?_
 refine Ab 4 (Dy (Tj v38.1.num v38.1.den) λv42 hv42=>(gs (Ao hv42 ·) (Ab 4 (Ew 36 ?_ ?_))))
 exact Ab 4 (gs (Kb 33 221 4 1 (λ_=>Cq v38.1) ·) (gs (Mt 48 221 221 4 (j3n+1) 1 30 33 34 (λxi=>Cq (Ik j3g j3n ⟨v28.1,hv28.1 (of_decide_eq_true hx29)⟩ xi).1) (λ_=>Cq v38.1) (λxi=>Cq (Ik (Ik j3g j3n ⟨v28.1,hv28.1 (of_decide_eq_true hx29)⟩) (j3n+1) ⟨v38.1,hv38.1 (of_decide_eq_true hx39)⟩ xi).1) (λi hi=>by rw[Us hi]) (λi hi=>by(obtain rfl:i=0:=(ω));rw[Ur]) ·) (Ab 20 (Iy (Ab 9 (Iy (Ab 3 (Pj (Ab 6 (Pj (Ab 8 (gs (Cv (((j3:Nat):Int)+1) ((j3+1:Nat):Int) ·) (Ab 2 (Fy [0,1,6,7,8] [(0,0),(1,1),(2,2),(3,3),(34,14),(5,5),(6,6),(7,7),(8,8),(10,10),(12,12),(13,13)] 15 [(22,1,1+f.hn,(λxi=>Cd (Ca f xi))),(287,2,2,(λxi=>[.lit (.agg #[.int .i64 (Ai (Ai ((Ai (b.x-a.x))*(Ai ((l9.f j3).x-a.x)))+Ai ((Ai (b.y-a.y))*(Ai ((l9.f j3).y-a.y))))),.int .i64 (Ai (Ai ((Ai (b.x-a.x))*(Ai (b.x-a.x)))+Ai ((Ai (b.y-a.y))*(Ai (b.y-a.y)))))]),.lit (.agg #[.int .i64 (Ai (Ai ((Ai (b.x-a.x))*(Ai ((l9.f ((j3+1)%l9.n)).x-a.x)))+Ai ((Ai (b.y-a.y))*(Ai ((l9.f ((j3+1)%l9.n)).y-a.y))))),.int .i64 (Ai (Ai ((Ai (b.x-a.x))*(Ai (b.x-a.x)))+Ai ((Ai (b.y-a.y))*(Ai (b.y-a.y)))))])].getD xi .top)),(221,4,1,(λ_=>Cq v28.1)),(221,4,1,(λ_=>Cq v38.1)),(221,4,j3n+1+1,(λxi=>Cq (Ik (Ik j3g j3n ⟨v28.1,hv28.1 (of_decide_eq_true hx29)⟩) (j3n+1) ⟨v38.1,hv38.1 (of_decide_eq_true hx39)⟩ xi).1))] ⟨(Ce λ_ _=>rfl),(Ce λi hi=>by match i,hi with|0,_=>rfl|1,_=>rfl|_+2,h=>exact absurd h ω),(Ce λ_ _=>rfl),(Ce λ_ _=>rfl),(Ce λ_ _=>rfl),trivial⟩ (hJ2 _ _ (by omega:l9.n-(j3+1)<l9.n-j3) ⟨j3+1,j3n+1+1,Ik (Ik j3g j3n ⟨v28.1,hv28.1 (of_decide_eq_true hx29)⟩) (j3n+1) ⟨v38.1,hv38.1 (of_decide_eq_true hx39)⟩,rfl,⟨ω,ω⟩,rfl⟩)))))))))))))))
 exact Vm [1,5,7,8,9,36] hS41
 exact Ab 9 (Vm [1,5,7,8,9,36] hS41)
 exact Ab 35 (Iy (Ab 9 (Iy (Ab 3 (Pj (Ab 6 (Pj (Ab 8 (gs (Cv (((j3:Nat):Int)+1) ((j3+1:Nat):Int) ·) (Ab 2 (Fy [0,1,6,7,8] [(0,0),(1,1),(2,2),(3,3),(30,14),(5,5),(6,6),(7,7),(8,8),(10,10),(12,12),(13,13)] 15 [(22,1,1+f.hn,(λxi=>Cd (Ca f xi))),(287,2,2,(λxi=>[.lit (.agg #[.int .i64 (Ai (Ai ((Ai (b.x-a.x))*(Ai ((l9.f j3).x-a.x)))+Ai ((Ai (b.y-a.y))*(Ai ((l9.f j3).y-a.y))))),.int .i64 (Ai (Ai ((Ai (b.x-a.x))*(Ai (b.x-a.x)))+Ai ((Ai (b.y-a.y))*(Ai (b.y-a.y)))))]),.lit (.agg #[.int .i64 (Ai (Ai ((Ai (b.x-a.x))*(Ai ((l9.f ((j3+1)%l9.n)).x-a.x)))+Ai ((Ai (b.y-a.y))*(Ai ((l9.f ((j3+1)%l9.n)).y-a.y))))),.int .i64 (Ai (Ai ((Ai (b.x-a.x))*(Ai (b.x-a.x)))+Ai ((Ai (b.y-a.y))*(Ai (b.y-a.y)))))])].getD xi .top)),(221,4,1,(λ_=>Cq v28.1)),(221,4,j3n+1,(λxi=>Cq (Ik j3g j3n ⟨v28.1,hv28.1 (of_decide_eq_true hx29)⟩ xi).1))] ⟨(Ce λ_ _=>rfl),(Ce λi hi=>by match i,hi with|0,_=>rfl|1,_=>rfl|_+2,h=>exact absurd h ω),(Ce λ_ _=>rfl),(Ce λ_ _=>rfl),trivial⟩ (hJ2 _ _ (by omega:l9.n-(j3+1)<l9.n-j3) ⟨j3+1,j3n+1,Ik j3g j3n ⟨v28.1,hv28.1 (of_decide_eq_true hx29)⟩,rfl,⟨ω,ω⟩,rfl⟩))))))))))))
 exact Vm [1,5,7,8,9,36] hS31
 exact Ab 9 (Vm [1,5,7,8,9,36] hS31)
 refine Ab 37 (gs (Gu 1 2 ·) (gs (Cu (.lit (.agg #[.int .i64 (Ai (Ai ((Ai (b.x-a.x))*(Ai ((l9.f ((j3+1)%l9.n)).x-a.x)))+Ai ((Ai (b.y-a.y))*(Ai ((l9.f ((j3+1)%l9.n)).y-a.y))))),.int .i64 (Ai (Ai ((Ai (b.x-a.x))*(Ai (b.x-a.x)))+Ai ((Ai (b.y-a.y))*(Ai (b.y-a.y)))))])) (.read 26) (Bg 287 (.tmp 11) κ isAgg287 2 sizeOf287 26 1 κ 287 2 (λxi=>[.lit (.agg #[.int .i64 (Ai (Ai ((Ai (b.x-a.x))*(Ai ((l9.f j3).x-a.x)))+Ai ((Ai (b.y-a.y))*(Ai ((l9.f j3).y-a.y))))),.int .i64 (Ai (Ai ((Ai (b.x-a.x))*(Ai (b.x-a.x)))+Ai ((Ai (b.y-a.y))*(Ai (b.y-a.y)))))]),.lit (.agg #[.int .i64 (Ai (Ai ((Ai (b.x-a.x))*(Ai ((l9.f ((j3+1)%l9.n)).x-a.x)))+Ai ((Ai (b.y-a.y))*(Ai ((l9.f ((j3+1)%l9.n)).y-a.y))))),.int .i64 (Ai (Ai ((Ai (b.x-a.x))*(Ai (b.x-a.x)))+Ai ((Ai (b.y-a.y))*(Ai (b.y-a.y)))))])].getD xi .top) κ ω) ·) (Ab 10 (Exists.elim (gO (Ai (Ai ((Ai (b.x-a.x))*(Ai ((l9.f ((j3+1)%l9.n)).x-a.x)))+Ai ((Ai (b.y-a.y))*(Ai ((l9.f ((j3+1)%l9.n)).y-a.y))))) (Ai (Ai ((Ai (b.x-a.x))*(Ai (b.x-a.x)))+Ai ((Ai (b.y-a.y))*(Ai (b.y-a.y))))) (Qf (Ai ((Ai (b.x-a.x))*(Ai ((l9.f ((j3+1)%l9.n)).x-a.x)))+Ai ((Ai (b.y-a.y))*(Ai ((l9.f ((j3+1)%l9.n)).y-a.y))))) (Qe (Ai ((Ai (b.x-a.x))*(Ai ((l9.f ((j3+1)%l9.n)).x-a.x)))+Ai ((Ai (b.y-a.y))*(Ai ((l9.f ((j3+1)%l9.n)).y-a.y))))) (Qf (Ai ((Ai (b.x-a.x))*(Ai (b.x-a.x)))+Ai ((Ai (b.y-a.y))*(Ai (b.y-a.y))))) (Qe (Ai ((Ai (b.x-a.x))*(Ai (b.x-a.x)))+Ai ((Ai (b.y-a.y))*(Ai (b.y-a.y)))))) λv43 hv43=>(gs (Ao hv43.2 ·) (Ab 13 (Hn 23 (v43.2=0) (λhx44 hx44d=>?_) (λhx44 hx44d=>?_))))))))
 refine Ab 2 (Dy (Io v43.1.num) λv45 hv45=>(gs (Ao hv45 ·) (Ab 3 (tsh 9 29 false [1,5,7,8,9,36] ?_ (λhS46=>?_)))))
 exact Ab 20 (Iy (Ab 9 (Iy (Ab 3 (Pj (Ab 6 (Pj (Ab 8 (gs (Cv (((j3:Nat):Int)+1) ((j3+1:Nat):Int) ·) (Ab 2 (Fy [0,1,6,7,8] [(0,0),(1,1),(2,2),(3,3),(14,14),(5,5),(6,6),(7,7),(8,8),(10,10),(12,12),(13,13)] 15 [(221,4,j3n,(λxi=>Cq (j3g xi).1)),(22,1,1+f.hn,(λxi=>Cd (Ca f xi))),(287,2,2,(λxi=>[.lit (.agg #[.int .i64 (Ai (Ai ((Ai (b.x-a.x))*(Ai ((l9.f j3).x-a.x)))+Ai ((Ai (b.y-a.y))*(Ai ((l9.f j3).y-a.y))))),.int .i64 (Ai (Ai ((Ai (b.x-a.x))*(Ai (b.x-a.x)))+Ai ((Ai (b.y-a.y))*(Ai (b.y-a.y)))))]),.lit (.agg #[.int .i64 (Ai (Ai ((Ai (b.x-a.x))*(Ai ((l9.f ((j3+1)%l9.n)).x-a.x)))+Ai ((Ai (b.y-a.y))*(Ai ((l9.f ((j3+1)%l9.n)).y-a.y))))),.int .i64 (Ai (Ai ((Ai (b.x-a.x))*(Ai (b.x-a.x)))+Ai ((Ai (b.y-a.y))*(Ai (b.y-a.y)))))])].getD xi .top))] ⟨(Ce λ_ _=>rfl),(Ce λ_ _=>rfl),(Ce λi hi=>by match i,hi with|0,_=>rfl|1,_=>rfl|_+2,h=>exact absurd h ω),trivial⟩ (hJ2 _ _ (by omega:l9.n-(j3+1)<l9.n-j3) ⟨j3+1,j3n,j3g,rfl,⟨ω,ω⟩,rfl⟩))))))))))))
 refine Ew 29 ?_ ?_
 refine Ab 4 (Dy (Tj v43.1.num v43.1.den) λv47 hv47=>(gs (Ao hv47 ·) (Ab 4 (Ew 36 ?_ ?_))))
 exact Ab 4 (gs (Kb 31 221 4 1 (λ_=>Cq v43.1) ·) (gs (Mt 48 221 221 4 j3n 1 14 31 32 (λxi=>Cq (j3g xi).1) (λ_=>Cq v43.1) (λxi=>Cq (Ik j3g j3n ⟨v43.1,hv43.1 (of_decide_eq_true hx44)⟩ xi).1) (λi hi=>by rw[Us hi]) (λi hi=>by(obtain rfl:i=0:=(ω));rw[Ur]) ·) (Ab 20 (Iy (Ab 9 (Iy (Ab 3 (Pj (Ab 6 (Pj (Ab 8 (gs (Cv (((j3:Nat):Int)+1) ((j3+1:Nat):Int) ·) (Ab 2 (Fy [0,1,6,7,8] [(0,0),(1,1),(2,2),(3,3),(32,14),(5,5),(6,6),(7,7),(8,8),(10,10),(12,12),(13,13)] 15 [(22,1,1+f.hn,(λxi=>Cd (Ca f xi))),(287,2,2,(λxi=>[.lit (.agg #[.int .i64 (Ai (Ai ((Ai (b.x-a.x))*(Ai ((l9.f j3).x-a.x)))+Ai ((Ai (b.y-a.y))*(Ai ((l9.f j3).y-a.y))))),.int .i64 (Ai (Ai ((Ai (b.x-a.x))*(Ai (b.x-a.x)))+Ai ((Ai (b.y-a.y))*(Ai (b.y-a.y)))))]),.lit (.agg #[.int .i64 (Ai (Ai ((Ai (b.x-a.x))*(Ai ((l9.f ((j3+1)%l9.n)).x-a.x)))+Ai ((Ai (b.y-a.y))*(Ai ((l9.f ((j3+1)%l9.n)).y-a.y))))),.int .i64 (Ai (Ai ((Ai (b.x-a.x))*(Ai (b.x-a.x)))+Ai ((Ai (b.y-a.y))*(Ai (b.y-a.y)))))])].getD xi .top)),(221,4,1,(λ_=>Cq v43.1)),(221,4,j3n+1,(λxi=>Cq (Ik j3g j3n ⟨v43.1,hv43.1 (of_decide_eq_true hx44)⟩ xi).1))] ⟨(Ce λ_ _=>rfl),(Ce λi hi=>by match i,hi with|0,_=>rfl|1,_=>rfl|_+2,h=>exact absurd h ω),(Ce λ_ _=>rfl),(Ce λ_ _=>rfl),trivial⟩ (hJ2 _ _ (by omega:l9.n-(j3+1)<l9.n-j3) ⟨j3+1,j3n+1,Ik j3g j3n ⟨v43.1,hv43.1 (of_decide_eq_true hx44)⟩,rfl,⟨ω,ω⟩,rfl⟩)))))))))))))))
 exact Vm [1,5,7,8,9,36] hS46
 exact Ab 9 (Vm [1,5,7,8,9,36] hS46)
 exact Ab 35 (Iy (Ab 9 (Iy (Ab 3 (Pj (Ab 6 (Pj (Ab 8 (gs (Cv (((j3:Nat):Int)+1) ((j3+1:Nat):Int) ·) (Ab 2 (Fy [0,1,6,7,8] [(0,0),(1,1),(2,2),(3,3),(14,14),(5,5),(6,6),(7,7),(8,8),(10,10),(12,12),(13,13)] 15 [(221,4,j3n,(λxi=>Cq (j3g xi).1)),(22,1,1+f.hn,(λxi=>Cd (Ca f xi))),(287,2,2,(λxi=>[.lit (.agg #[.int .i64 (Ai (Ai ((Ai (b.x-a.x))*(Ai ((l9.f j3).x-a.x)))+Ai ((Ai (b.y-a.y))*(Ai ((l9.f j3).y-a.y))))),.int .i64 (Ai (Ai ((Ai (b.x-a.x))*(Ai (b.x-a.x)))+Ai ((Ai (b.y-a.y))*(Ai (b.y-a.y)))))]),.lit (.agg #[.int .i64 (Ai (Ai ((Ai (b.x-a.x))*(Ai ((l9.f ((j3+1)%l9.n)).x-a.x)))+Ai ((Ai (b.y-a.y))*(Ai ((l9.f ((j3+1)%l9.n)).y-a.y))))),.int .i64 (Ai (Ai ((Ai (b.x-a.x))*(Ai (b.x-a.x)))+Ai ((Ai (b.y-a.y))*(Ai (b.y-a.y)))))])].getD xi .top))] ⟨(Ce λ_ _=>rfl),(Ce λ_ _=>rfl),(Ce λi hi=>by match i,hi with|0,_=>rfl|1,_=>rfl|_+2,h=>exact absurd h ω),trivial⟩ (hJ2 _ _ (by omega:l9.n-(j3+1)<l9.n-j3) ⟨j3+1,j3n,j3g,rfl,⟨ω,ω⟩,rfl⟩))))))))))))
 exact Ab 10 (Iy (Ab 3 (Pj (Ab 6 (Pj (Ab 8 (gs (Cv (((j3:Nat):Int)+1) ((j3+1:Nat):Int) ·) (Ab 2 (Fy [0,1,6,7,8] [(0,0),(1,1),(2,2),(3,3),(14,14),(5,5),(6,6),(7,7),(8,8),(10,10),(12,12),(13,13)] 15 [(221,4,j3n,(λxi=>Cq (j3g xi).1)),(22,1,1+f.hn,(λxi=>Cd (Ca f xi)))] ⟨(Ce λ_ _=>rfl),(Ce λ_ _=>rfl),trivial⟩ (hJ2 _ _ (by omega:l9.n-(j3+1)<l9.n-j3) ⟨j3+1,j3n,j3g,rfl,⟨ω,ω⟩,rfl⟩))))))))))
 exact Ab 5 (aN (Ab 4 (gs (Cv ((i:Int)+1) ((i+1:Nat):Int) ·) (Ab 2 (Fy [2,15,16,17] [(0,0),(1,1),(2,2),(3,3),(14,11),(5,5),(6,6),(7,7),(8,8),(10,10)] 12 [(221,4,j3n,(λxi=>Cq (j3g xi).1)),(22,1,1+f.hn,(λxi=>Cd (Ca f xi)))] ⟨(Ce λ_ _=>rfl),(Ce λ_ _=>rfl),trivial⟩ (hJ1 _ _ (by omega:f.hn+1-(i+1)<f.hn+1-i) ⟨i+1,j3n,j3g,rfl,⟨ω,ω⟩,rfl⟩))))))
 refine Ait 27 (decide ((0:Int)<(gI v11))=decide ((i:Int)=0)) (λhx48 hx48d=>?_) (λhx48 hx48d=>?_)
 exact Ab 3 (Vm [2,4,15,16,17] (hJ9 (Ca f i) ⟨hn1,hn3⟩))
 exact Ab 4 (cE func59 (Ab 9 (gs (ven ((Ca f i).n) ·) (Ab 7 (gs (Cu (.osl 12 3 0) (.new 12 (.vec 79 3 0 (λ_=> .top))) (cC 22 κ underlying22 3 sizeOf79 12 (λ_=> .top)) ·) (Ab 1 (gs (Cu (.osl 13 3 ((Ca f i).n)) (.grow 12 13 (.vec 79 3 ((Ca f i).n) (λi0=>Bf ((Ca f i).f i0)))) (Ad5 (Pz (.tmp 5) (.tmp 6) 22 κ underlying22 3 24 (.agg #[.int .i64 0,.int .i64 0,.int .i64 0]) κ κ δ 0 ((Ca f i).n) ω (λ_=> .top) (λi0=>Bf ((Ca f i).f i0)) (λi0=>Bf ((Ca f i).f i0)) 13 ω (by unfold maxLen;omega) (λi hi=>absurd hi (Nat.not_lt_zero i)) (λi hi=>by rw[Nat.zero_add]) (λi hi j hj=>match j,hj with|0,_=>rfl|1,_=>rfl|2,_=>rfl|_+3,h=>absurd h ω) 12 κ κ κ) (Nat.zero_add _)) ·) (Ab 4 (Iy (Ab 5 (gs (Cu (.osw 13 3 1 (((Ca f i).n)-1)) (.read 13) (Sd 22 (.tmp 30) (some (.const (.int .i64 1))) none κ underlying22 13 3 ((Ca f i).n) sizeOf79 79 (λi0=>Bf ((Ca f i).f i0)) κ κ 1 ((Ca f i).n) (.inr ⟨(.const (.int .i64 1)),1,rfl,κ,ω⟩) (.inl ⟨rfl,rfl⟩) ω ω) ·) (gs (Cu (.lit (.tuple #[])) (.set 13 (.vec 79 3 ((Ca f i).n) (λxi=>Bf ((AhW (Ca f i)).f xi)))) (AhF (.tmp 31) #[22] 13 79 (Ca f i) ω ω κ κ κ) ·) (Ab 2 (gs (iM 13 [4] 79 3 ((Ca f i).n) (λxi=>Bf ((AhW (Ca f i)).f xi)) (Ce λ_ _=>rfl) ·) (tfg [2,4,15,16,17] [(0,0),(1,1),(2,2),(3,3),(11,11),(5,5),(6,6),(7,7),(8,8),(10,10)] 12 [(221,4,n,(λxi=>Cq (g xi).1)),(22,1,1+f.hn,(λxi=>Cd (Ca f xi)))] ⟨(Ce λ_ _=>rfl),(Ce λ_ _=>rfl),trivial⟩ (Vm [2,4,15,16,17] (hJ9 (AhW (Ca f i)) ⟨hn1,hn3⟩)))))))))))))))))
 refine Ab 5 (aN (Ab 11 (gs (Cu (.lit (.tuple #[])) (.set 11 (.vec 221 4 n (λxi=>Cq (Ix g n xi).1))) (Ad7 (.tmp 73) (.tmp 74) #[231,235] 11 221 n g ω κ κ κ κ) ·) (Ab 5 (cE func144 (Ab 13 (Hn 8 ((n:Int)<2) (λhx51 hx51d=>?_) (λhx51 hx51d=>?_))))))))
 refine Ab 9 (Iy (Ab 21 (tfg [3,4,5,8,9,13,14,15] [(0,0),(1,1),(2,2),(3,3),(11,11),(5,5),(12,12)] 13 [(221,4,n,(λxi=>Cq (Ix g n xi).1)),(22,1,1+f.hn,(λxi=>Cd (Ca f xi)))] ⟨(Ce λ_ _=>rfl),(Ce λ_ _=>rfl),trivial⟩ (Vl [3,4,5,8,9,13,14,15] (λm s=>∃(q:Nat) (qe:Int),m=n-q/\(1<=q)/\s=⟨[(3,.ptr 0 0),(4,.ptr 1 0),(5,.ptr 2 0),(8,.ptr 3 0),(9,.ptr 5 0),(13,.ptr 12 0),(14,.fn 145 [.ptr 12 0]),(15,.int (q:Int))],[(0,.box 25 [Cd f.o,hsA f,.int f.low,.int f.high]),(1,.box 79 [.int a.x,.int a.y,.int a.z]),(2,.box 79 [.int b.x,.int b.y,.int b.z]),(3,.box 169 [.bool (decide ((1:Int)<0)),.lit (.string (Ci (1:Int).natAbs))]),(11,.vec 221 4 n (λxi=>Cq (Ix g n xi).1)),(5,.box 231 [.osl 11 4 n]),(12,.box 239 [.int qe])],13,131⟩) (n-1) ⟨1,0,rfl,Nat.le_refl _,κ⟩ ?_))))
 rintro _ _ ⟨q,qe,rfl,hF,rfl⟩ hJ3
 refine Ab 9 (Hn 82 ((q:Int)<(n:Int)) (λhx52 hx52d=>?_) (λhx52 hx52d=>?_))
 refine Ab 6 (Dy (mW ((Ix g n (q-1)).1) ((Ix g n q).1)) λv53 hv53=>(gs (Cp [(2,.int ((q-1:Nat):Int),.none),(3,Cw (.osl 11 4 n) (q-1),.none),(4,Cq (Ix g n (q-1)).1,(.read 11)),(7,Cw (.osl 11 4 n) q,.none),(8,Cq (Ix g n q).1,(.read 11)),(9,_,.none)] [3,4,5,8,9,13,14,15,16] ⟨En (.int .i64 (IntKind.wrap .i64 ((q:Int)-1))) η,Jn (q-1) n,Eb (Bg 221 (.tmp 89) κ isAgg221 4 sizeOf221 11 (q-1) κ 221 n (λxi=>Cq (Ix g n xi).1) κ ω),Jn q n,Eb (Bg 221 (.tmp 93) κ isAgg221 4 sizeOf221 11 q κ 221 n (λxi=>Cq (Ix g n xi).1) κ ω),Be hv53,trivial⟩ ·) (Ab 2 (Dy (mX (⟨⟨(gB (gT (gT v53 0) 0)),(gS (gT (gT v53 0) 1))⟩,⟨(gB (gT (gT v53 0) 2)),(gS (gT (gT v53 0) 3))⟩⟩) (⟨⟨decide ((1:Int)<0),Ci (1:Int).natAbs⟩,⟨decide ((2:Int)<0),Ci (2:Int).natAbs⟩⟩)) λv54 hv54=>(gs (Cp [(2,_,.none),(4,_,.none)] [3,4,5,8,9,13,14,15,18] ⟨Be (Er 2 δ δ),Be hv54,trivial⟩ ·) (Ab 2 (Exists.elim (Qs qe a.x (Ai (b.x-a.x)) (⟨⟨(gB (gT (gT v54 0) 0)),(gS (gT (gT v54 0) 1))⟩,⟨(gB (gT (gT v54 0) 2)),(gS (gT (gT v54 0) 3))⟩⟩)) λv55 hv55=>(Exists.elim (Qs v55.2 a.y (Ai (b.y-a.y)) (⟨⟨(gB (gT (gT v54 0) 0)),(gS (gT (gT v54 0) 1))⟩,⟨(gB (gT (gT v54 0) 2)),(gS (gT (gT v54 0) 3))⟩⟩)) λv56 hv56=>(Exists.elim (xM v56.2 (⟨⟨(gB (gT v55.1 0)),(gS (gT v55.1 1))⟩,⟨(gB (gT v55.1 2)),(gS (gT v55.1 3))⟩⟩) (⟨⟨(gB (gT v56.1 0)),(gS (gT v56.1 1))⟩,⟨(gB (gT v56.1 2)),(gS (gT v56.1 3))⟩⟩)) λv57 hv57=>(gs (Cp [(9,_,_),(19,_,_),(20,_,_)] [3,4,5,8,9,13,14,15,20] ⟨aX 12 [] hv55,aX 12 [] hv56,aX 12 [] hv57,trivial⟩ ·) (Ab 5 (Exists.elim (xL v57.2 (⟨⟨(gB (gT v57.1 0)),(gS (gT v57.1 1))⟩,⟨(gB (gT v57.1 2)),(gS (gT v57.1 3))⟩,⟨(gB (gT v57.1 4)),(gS (gT v57.1 5))⟩⟩) f h0) λv58 hv58=>(gs (vcx 12 [15] hv58 ·) (Ab 3 (Ew 130 ?_ ?_)))))))))))))))
 exact Ab 13 (Bb)
 exact Ab 6 (gs (Cv ((q:Int)+1) ((q+1:Nat):Int) ·) (Ab 2 (Fy [3,4,5,8,9,13,14,15] [(0,0),(1,1),(2,2),(3,3),(11,11),(5,5),(12,12)] 13 [(221,4,n,(λxi=>Cq (Ix g n xi).1))] ⟨(Ce λ_ _=>rfl),trivial⟩ (hJ3 _ _ (by omega:n-(q+1)<n-q) ⟨q+1,v58.2,rfl,ω,rfl⟩))))
 exact Ab 13 (Bb)
 refine Ab 10 (Vl [0,3] (λm s=>∃(k:Nat),m=n-k/\(1<=k/\k<=n)/\s=⟨[(0,.osl 11 4 n),(3,.int (k:Int))],[(0,.box 25 [Cd f.o,hsA f,.int f.low,.int f.high]),(1,.box 79 [.int a.x,.int a.y,.int a.z]),(2,.box 79 [.int b.x,.int b.y,.int b.z]),(3,.box 169 [.bool (decide ((1:Int)<0)),.lit (.string (Ci (1:Int).natAbs))]),(11,.vec 221 4 n (λxi=>Cq (Ix g n xi).1)),(5,.box 231 [.osl 11 4 n]),(6,.box 25 [Cd f.o,hsA f,.int f.low,.int f.high]),(8,.box 115 [.yld 7]),(10,.vec 22 1 (1+f.hn) (λxi=>Cd (Ca f xi)))],12,61⟩) (n-1) ⟨1,rfl,⟨ω,ω⟩,κ⟩ ?_)
 rintro _ _ ⟨k,rfl,hF,rfl⟩ hJ4
 refine Ab 9 (Hn 13 ((k:Int)<(n:Int)) (λhx59 hx59d=>?_) (λhx59 hx59d=>?_))
 refine Ab 6 (gs (Cp [(2,Cw (.osl 11 4 n) k,.none),(3,Cq (Ix g n k).1,(.read 11)),(6,.int ((k-1:Nat):Int),.none),(7,Cw (.osl 11 4 n) (k-1),.none),(8,Cq (Ix g n (k-1)).1,(.read 11)),(9,.bool (AcJ ((Ix g n k).1) ((Ix g n (k-1)).1)),.none)] [0,3,25] ⟨Jn k n,Eb (Bg 221 (.tmp 18) κ isAgg221 4 sizeOf221 11 k κ 221 n (λxi=>Cq (Ix g n xi).1) κ ω),En (.int .i64 (IntKind.wrap .i64 ((k:Int)-1))) η,Jn (k-1) n,Eb (Bg 221 (.tmp 23) κ isAgg221 4 sizeOf221 11 (k-1) κ 221 n (λxi=>Cq (Ix g n xi).1) κ ω),Eb (Abm 221 221 (.tmp 19) (.tmp 24) κ _ _ κ κ κ (AcJ ((Ix g n k).1) ((Ix g n (k-1)).1)) (AlG ((Ix g n k).1) ((Ix g n (k-1)).1))),trivial⟩ ·) (Ab 1 (Ew 25 ?_ ?_)))
 refine Ab 5 (gs (Cu (.osw 11 4 k (n-k)) (.read 11) (Sd 231 (.tmp 26) (some (.tmp 27)) none κ underlying231 11 4 n sizeOf221 221 (λxi=>Cq (Ix g n xi).1) κ κ k n (.inr ⟨(.tmp 27),(k:Int),rfl,κ,ω⟩) (.inl ⟨rfl,rfl⟩) ω ω) ·) (Ab 10 (Vl [0,3,4,5] (λm s=>∃(kk k2:Nat) (gg:Nat->RQ),m=n-k2/\(1<=k2/\1<=kk/\kk<k+k2/\k+k2<=n)/\s=⟨[(0,.osl 11 4 n),(3,.int (kk:Int)),(4,.osw 11 4 k (n-k)),(5,.int ((k2:Nat):Int))],[(0,.box 25 [Cd f.o,hsA f,.int f.low,.int f.high]),(1,.box 79 [.int a.x,.int a.y,.int a.z]),(2,.box 79 [.int b.x,.int b.y,.int b.z]),(3,.box 169 [.bool (decide ((1:Int)<0)),.lit (.string (Ci (1:Int).natAbs))]),(11,.vec 221 4 n (λxi=>Cq (gg xi).1)),(5,.box 231 [.osl 11 4 n]),(6,.box 25 [Cd f.o,hsA f,.int f.low,.int f.high]),(8,.box 115 [.yld 7]),(10,.vec 22 1 (1+f.hn) (λxi=>Cd (Ca f xi)))],12,61⟩) (n-1) ⟨k,1,Ix g n,rfl,⟨ω,ω,ω,ω⟩,κ⟩ ?_)))
 rintro _ _ ⟨kk,k2,gg,rfl,hF,rfl⟩ hJ5
 refine Ab 9 (Hn 32 (((k2:Nat):Int)<((n-k:Nat):Int)) (λhx60 hx60d=>?_) (λhx60 hx60d=>?_))
 refine Ab 6 (gs (Cp [(2,Cw (.osw 11 4 k (n-k)) k2,.none),(3,Cq (gg (k+k2)).1,(.read 11)),(6,.int ((k2-1:Nat):Int),.none),(7,Cw (.osw 11 4 k (n-k)) (k2-1),.none),(8,Cq (gg (k+(k2-1))).1,(.read 11)),(9,.bool (!(AcJ ((gg (k+k2)).1) ((gg (k+(k2-1))).1))),.none)] [0,3,4,5,44] ⟨Jn k2 (n-k),Eb (Bg 221 (.tmp 37) κ isAgg221 4 sizeOf221 11 (k+k2) κ 221 n (λxi=>Cq (gg xi).1) κ ω),En (.int .i64 (IntKind.wrap .i64 (((k2:Nat):Int)-1))) η,Jn (k2-1) (n-k),Eb (Bg 221 (.tmp 42) κ isAgg221 4 sizeOf221 11 (k+(k2-1)) κ 221 n (λxi=>Cq (gg xi).1) κ ω),Eb (dF 221 221 (.tmp 38) (.tmp 43) κ _ _ κ κ κ (AcJ ((gg (k+k2)).1) ((gg (k+(k2-1))).1)) (AlG ((gg (k+k2)).1) ((gg (k+(k2-1))).1))),trivial⟩ ·) (Ab 1 (Ew 44 ?_ ?_)))
 exact Ab 7 (gs (Gu k2 (n-k) ·) (gs (Cu (Cq (gg (k+k2)).1) (.read 11) (Bg 221 (.tmp 49) κ isAgg221 4 sizeOf221 11 (k+k2) κ 221 n (λxi=>Cq (gg xi).1) κ ω) ·) (gs (Gu kk n ·) (gs (Cu (.lit Go.undef) (.set 11 (.vec 221 4 n (λxi=>if xi=kk then Cq (gg (k+k2)).1 else (λxi=>Cq (gg xi).1) xi))) (Gs 221 (.tmp 51) (.tmp 50) κ 4 sizeOf221 11 kk κ 221 n (λxi=>Cq (gg xi).1) κ ω κ κ κ (Cq (gg (k+k2)).1) κ) ·) (Ab 2 (gs (Xc 11 221 4 n (λxi=>if xi=kk then Cq (gg (k+k2)).1 else (λxi=>Cq (gg xi).1) xi) (λxi=>Cq (An8 gg kk (gg (k+k2)) xi).1) (λx9 hx9=>by unfold An8;split<;>rfl) ·) (Ab 2 (gs (Cv ((kk:Int)+1) ((kk+1:Nat):Int) ·) (Ab 6 (gs (Cv (((k2:Nat):Int)+1) ((k2+1:Nat):Int) ·) (Ab 2 (mH [0,3,4,5] (hJ5 _ _ (by omega:n-(k2+1)<n-k2) ⟨kk+1,k2+1,An8 gg kk (gg (k+k2)),rfl,⟨ω,ω,ω,ω⟩,rfl⟩)))))))))))))
 exact Ab 6 (gs (Cv (((k2:Nat):Int)+1) ((k2+1:Nat):Int) ·) (Ab 2 (mH [0,3,4,5] (hJ5 _ _ (by omega:n-(k2+1)<n-k2) ⟨kk,k2+1,gg,rfl,⟨ω,ω,ω,ω⟩,rfl⟩))))
 refine Ab 10 (gs (Cu (.osw 11 4 kk (n-kk)) (.read 11) (Sd 231 (.tmp 54) (some (.tmp 55)) none κ underlying231 11 4 n sizeOf221 221 (λxi=>Cq (gg xi).1) κ κ kk n (.inr ⟨(.tmp 55),(kk:Int),rfl,κ,ω⟩) (.inl ⟨rfl,rfl⟩) ω ω) ·) (gs (Cu (.lit (.tuple #[])) (.set 11 (.vec 221 4 n (λxi=>if xi<kk then (λxi=>Cq (gg xi).1) xi else .top))) (zC (.tmp 56) 231 #[231] κ rfl 11 4 kk (n-kk) n 221 221 (λxi=>Cq (gg xi).1) underlying231 (.agg #[.bool false,.string ⟨#[]⟩,.bool false,.string ⟨#[]⟩]) zeroValue221 rfl rfl κ κ ω) ·) (Ab 6 (gs (Cu (.osw 11 4 0 (kk-0)) (.read 11) (Sd 231 (.tmp 57) none (some (.tmp 58)) κ underlying231 11 4 n sizeOf221 221 (λxi=>if xi<kk then (λxi=>Cq (gg xi).1) xi else .top) κ κ 0 kk (.inl ⟨rfl,rfl⟩) (.inr ⟨(.tmp 58),(kk:Int),rfl,κ,ω⟩) ω ω) ·) (Ab 9 (Iy (Ab 3 (gs (vsh 11 221 4 n kk (λxi=>if xi<kk then (λxi=>Cq (gg xi).1) xi else .top) (λxi=>Cq (gg xi).1) ω (λi hi=>if_pos hi) ·) (Ab 18 (tfg [3,4,5,8,9,13,14,15] [(0,0),(1,1),(2,2),(3,3),(11,11),(5,5),(12,12)] 13 [(221,4,kk,(λxi=>Cq (gg xi).1)),(22,1,1+f.hn,(λxi=>Cd (Ca f xi)))] ⟨(Ce λ_ _=>rfl),(Ce λ_ _=>rfl),trivial⟩ (Vl [3,4,5,8,9,13,14,15] (λm s=>∃(q:Nat) (qe:Int),m=(kk-0)-q/\(1<=q)/\s=⟨[(3,.ptr 0 0),(4,.ptr 1 0),(5,.ptr 2 0),(8,.ptr 3 0),(9,.ptr 5 0),(13,.ptr 12 0),(14,.fn 145 [.ptr 12 0]),(15,.int (q:Int))],[(0,.box 25 [Cd f.o,hsA f,.int f.low,.int f.high]),(1,.box 79 [.int a.x,.int a.y,.int a.z]),(2,.box 79 [.int b.x,.int b.y,.int b.z]),(3,.box 169 [.bool (decide ((1:Int)<0)),.lit (.string (Ci (1:Int).natAbs))]),(11,.vec 221 4 kk (λxi=>Cq (gg xi).1)),(5,.box 231 [.osw 11 4 0 (kk-0)]),(12,.box 239 [.int qe])],13,131⟩) ((kk-0)-1) ⟨1,0,rfl,Nat.le_refl _,κ⟩ ?_)))))))))))
 rintro _ _ ⟨q,qe,rfl,hF,rfl⟩ hJ6
 refine Ab 9 (Hn 82 ((q:Int)<((kk-0:Nat):Int)) (λhx61 hx61d=>?_) (λhx61 hx61d=>?_))
 refine Ab 6 (Dy (mW ((gg (0+(q-1))).1) ((gg (0+q)).1)) λv62 hv62=>(gs (Cp [(2,.int ((q-1:Nat):Int),.none),(3,Cw (.osw 11 4 0 (kk-0)) (q-1),.none),(4,Cq (gg (0+(q-1))).1,(.read 11)),(7,Cw (.osw 11 4 0 (kk-0)) q,.none),(8,Cq (gg (0+q)).1,(.read 11)),(9,_,.none)] [3,4,5,8,9,13,14,15,16] ⟨En (.int .i64 (IntKind.wrap .i64 ((q:Int)-1))) η,Jn (q-1) (kk-0),Eb (Bg 221 (.tmp 89) κ isAgg221 4 sizeOf221 11 (0+(q-1)) κ 221 kk (λxi=>Cq (gg xi).1) κ ω),Jn q (kk-0),Eb (Bg 221 (.tmp 93) κ isAgg221 4 sizeOf221 11 (0+q) κ 221 kk (λxi=>Cq (gg xi).1) κ ω),Be hv62,trivial⟩ ·) (Ab 2 (Dy (mX (⟨⟨(gB (gT (gT v62 0) 0)),(gS (gT (gT v62 0) 1))⟩,⟨(gB (gT (gT v62 0) 2)),(gS (gT (gT v62 0) 3))⟩⟩) (⟨⟨decide ((1:Int)<0),Ci (1:Int).natAbs⟩,⟨decide ((2:Int)<0),Ci (2:Int).natAbs⟩⟩)) λv63 hv63=>(gs (Cp [(2,_,.none),(4,_,.none)] [3,4,5,8,9,13,14,15,18] ⟨Be (Er 2 δ δ),Be hv63,trivial⟩ ·) (Ab 2 (Exists.elim (Qs qe a.x (Ai (b.x-a.x)) (⟨⟨(gB (gT (gT v63 0) 0)),(gS (gT (gT v63 0) 1))⟩,⟨(gB (gT (gT v63 0) 2)),(gS (gT (gT v63 0) 3))⟩⟩)) λv64 hv64=>(Exists.elim (Qs v64.2 a.y (Ai (b.y-a.y)) (⟨⟨(gB (gT (gT v63 0) 0)),(gS (gT (gT v63 0) 1))⟩,⟨(gB (gT (gT v63 0) 2)),(gS (gT (gT v63 0) 3))⟩⟩)) λv65 hv65=>(Exists.elim (xM v65.2 (⟨⟨(gB (gT v64.1 0)),(gS (gT v64.1 1))⟩,⟨(gB (gT v64.1 2)),(gS (gT v64.1 3))⟩⟩) (⟨⟨(gB (gT v65.1 0)),(gS (gT v65.1 1))⟩,⟨(gB (gT v65.1 2)),(gS (gT v65.1 3))⟩⟩)) λv66 hv66=>(gs (Cp [(9,_,_),(19,_,_),(20,_,_)] [3,4,5,8,9,13,14,15,20] ⟨aX 12 [] hv64,aX 12 [] hv65,aX 12 [] hv66,trivial⟩ ·) (Ab 5 (Exists.elim (xL v66.2 (⟨⟨(gB (gT v66.1 0)),(gS (gT v66.1 1))⟩,⟨(gB (gT v66.1 2)),(gS (gT v66.1 3))⟩,⟨(gB (gT v66.1 4)),(gS (gT v66.1 5))⟩⟩) f h0) λv67 hv67=>(gs (vcx 12 [15] hv67 ·) (Ab 3 (Ew 130 ?_ ?_)))))))))))))))
 exact Ab 13 (Bb)
 exact Ab 6 (gs (Cv ((q:Int)+1) ((q+1:Nat):Int) ·) (Ab 2 (Fy [3,4,5,8,9,13,14,15] [(0,0),(1,1),(2,2),(3,3),(11,11),(5,5),(12,12)] 13 [(221,4,kk,(λxi=>Cq (gg xi).1))] ⟨(Ce λ_ _=>rfl),trivial⟩ (hJ6 _ _ (by omega:(kk-0)-(q+1)<(kk-0)-q) ⟨q+1,v67.2,rfl,ω,rfl⟩))))
 exact Ab 13 (Bb)
 exact Ab 6 (gs (Cv ((k:Int)+1) ((k+1:Nat):Int) ·) (Ab 2 (mH [0,3] (hJ4 _ _ (by omega:n-(k+1)<n-k) ⟨k+1,rfl,⟨ω,ω⟩,rfl⟩))))
 refine Ab 13 (Iy (Ab 21 (tfg [3,4,5,8,9,13,14,15] [(0,0),(1,1),(2,2),(3,3),(11,11),(5,5),(12,12)] 13 [(221,4,n,(λxi=>Cq (Ix g n xi).1)),(22,1,1+f.hn,(λxi=>Cd (Ca f xi)))] ⟨(Ce λ_ _=>rfl),(Ce λ_ _=>rfl),trivial⟩ (Vl [3,4,5,8,9,13,14,15] (λm s=>∃(q:Nat) (qe:Int),m=n-q/\(1<=q)/\s=⟨[(3,.ptr 0 0),(4,.ptr 1 0),(5,.ptr 2 0),(8,.ptr 3 0),(9,.ptr 5 0),(13,.ptr 12 0),(14,.fn 145 [.ptr 12 0]),(15,.int (q:Int))],[(0,.box 25 [Cd f.o,hsA f,.int f.low,.int f.high]),(1,.box 79 [.int a.x,.int a.y,.int a.z]),(2,.box 79 [.int b.x,.int b.y,.int b.z]),(3,.box 169 [.bool (decide ((1:Int)<0)),.lit (.string (Ci (1:Int).natAbs))]),(11,.vec 221 4 n (λxi=>Cq (Ix g n xi).1)),(5,.box 231 [.osl 11 4 n]),(12,.box 239 [.int qe])],13,131⟩) (n-1) ⟨1,0,rfl,Nat.le_refl _,κ⟩ ?_))))
 rintro _ _ ⟨q,qe,rfl,hF,rfl⟩ hJ7
 refine Ab 9 (Hn 82 ((q:Int)<(n:Int)) (λhx68 hx68d=>?_) (λhx68 hx68d=>?_))
 refine Ab 6 (Dy (mW ((Ix g n (q-1)).1) ((Ix g n q).1)) λv69 hv69=>(gs (Cp [(2,.int ((q-1:Nat):Int),.none),(3,Cw (.osl 11 4 n) (q-1),.none),(4,Cq (Ix g n (q-1)).1,(.read 11)),(7,Cw (.osl 11 4 n) q,.none),(8,Cq (Ix g n q).1,(.read 11)),(9,_,.none)] [3,4,5,8,9,13,14,15,16] ⟨En (.int .i64 (IntKind.wrap .i64 ((q:Int)-1))) η,Jn (q-1) n,Eb (Bg 221 (.tmp 89) κ isAgg221 4 sizeOf221 11 (q-1) κ 221 n (λxi=>Cq (Ix g n xi).1) κ ω),Jn q n,Eb (Bg 221 (.tmp 93) κ isAgg221 4 sizeOf221 11 q κ 221 n (λxi=>Cq (Ix g n xi).1) κ ω),Be hv69,trivial⟩ ·) (Ab 2 (Dy (mX (⟨⟨(gB (gT (gT v69 0) 0)),(gS (gT (gT v69 0) 1))⟩,⟨(gB (gT (gT v69 0) 2)),(gS (gT (gT v69 0) 3))⟩⟩) (⟨⟨decide ((1:Int)<0),Ci (1:Int).natAbs⟩,⟨decide ((2:Int)<0),Ci (2:Int).natAbs⟩⟩)) λv70 hv70=>(gs (Cp [(2,_,.none),(4,_,.none)] [3,4,5,8,9,13,14,15,18] ⟨Be (Er 2 δ δ),Be hv70,trivial⟩ ·) (Ab 2 (Exists.elim (Qs qe a.x (Ai (b.x-a.x)) (⟨⟨(gB (gT (gT v70 0) 0)),(gS (gT (gT v70 0) 1))⟩,⟨(gB (gT (gT v70 0) 2)),(gS (gT (gT v70 0) 3))⟩⟩)) λv71 hv71=>(Exists.elim (Qs v71.2 a.y (Ai (b.y-a.y)) (⟨⟨(gB (gT (gT v70 0) 0)),(gS (gT (gT v70 0) 1))⟩,⟨(gB (gT (gT v70 0) 2)),(gS (gT (gT v70 0) 3))⟩⟩)) λv72 hv72=>(Exists.elim (xM v72.2 (⟨⟨(gB (gT v71.1 0)),(gS (gT v71.1 1))⟩,⟨(gB (gT v71.1 2)),(gS (gT v71.1 3))⟩⟩) (⟨⟨(gB (gT v72.1 0)),(gS (gT v72.1 1))⟩,⟨(gB (gT v72.1 2)),(gS (gT v72.1 3))⟩⟩)) λv73 hv73=>(gs (Cp [(9,_,_),(19,_,_),(20,_,_)] [3,4,5,8,9,13,14,15,20] ⟨aX 12 [] hv71,aX 12 [] hv72,aX 12 [] hv73,trivial⟩ ·) (Ab 5 (Exists.elim (xL v73.2 (⟨⟨(gB (gT v73.1 0)),(gS (gT v73.1 1))⟩,⟨(gB (gT v73.1 2)),(gS (gT v73.1 3))⟩,⟨(gB (gT v73.1 4)),(gS (gT v73.1 5))⟩⟩) f h0) λv74 hv74=>(gs (vcx 12 [15] hv74 ·) (Ab 3 (Ew 130 ?_ ?_)))))))))))))))
 exact Ab 13 (Bb)
 exact Ab 6 (gs (Cv ((q:Int)+1) ((q+1:Nat):Int) ·) (Ab 2 (Fy [3,4,5,8,9,13,14,15] [(0,0),(1,1),(2,2),(3,3),(11,11),(5,5),(12,12)] 13 [(221,4,n,(λxi=>Cq (Ix g n xi).1))] ⟨(Ce λ_ _=>rfl),trivial⟩ (hJ7 _ _ (by omega:n-(q+1)<n-q) ⟨q+1,v74.2,rfl,ω,rfl⟩))))
 exact Ab 13 (Bb)
 refine Ew 49 ?_ ?_
 refine Ab 8 (Ew 55 ?_ ?_)
 exact Ab 9 (Bb)
 exact Vm [3,4,5,6,7,55] hS6
 exact Ab 8 (Vm [3,4,5,6,7,55] hS6)
 exact Ab 20 (Bb)
end Go.Proofs.YtihcpmmopejpoaaGreatDoor