/- Part 33 of the proof of PH.card_holds: no condition beyond the row's. -/
import Derived.Test.YtkpjchfniejdoaaGreatDoorPH32
set_option maxRecDepth 100000
set_option maxHeartbeats 40000000
namespace Go.Proofs.YtkpjchfniejdoaaGreatDoor
open Go.Proofs.Tryz
open Go.RowKit
theorem Ajh (x y z:AV) (e:Nat) (f:Nat->AV) (E:As) (v:Value) (h:VR E (.agg [x,.lit (.slice none 0 0),y,z]) v):VR E (.agg [x,.sl e 0 f,y,z]) v:=by
 cases h with
 |agg _ _ vs hn hr=>
  refine .agg _ _ vs hn λi hi=>?_
  match i,hi with
  |0,_=>exact hr 0 (by simp)
  |1,_=>
   have h1:=hr 1 (by simp)
   have h2:vs.getD 1 undef= .slice none 0 0:=h1.lit_inv
   rw[h2]
   exact .sl0 _ _ _ _ _
  |2,_=>exact hr 2 (by simp)
  |3,_=>exact hr 3 (by simp)
theorem An7 (w:World):(Op.equal 55 (.agg #[.int .i64 2,.int .i64 0]) (.agg #[.int .i64 2,.int .i64 0])).run Tryz.prog w= .ok true w:=κ
theorem AiE:AF Tryz.prog 16 [.sl 2 1 (Jc 2),.sl 2 1 (Jc 2)] (.bool true):=by
 refine Au func16 rfl λB D0 hA0=>?_
 exact Ae 25 (Mg 1 (Ae 15 (Cl [(2,Co (.sl 2 1 (Jc 2)) 0,.none),(6,Co (.sl 2 1 (Jc 2)) 0,.none),(8,.bool false,.none)] [0,1,5,25] ⟨Ht 0 1,Ht 0 1,Br (Ld (Zd 55 55 (.tmp 20) (.tmp 24) κ _ _ κ κ κ true An7) (show (!(true):Bool)=false from rfl)),trivial⟩ (Ae 7 (Bo (.int .i64 1) (.int .i64 1) (Ae 24 (Cm)))))))
theorem An8 (w:World):(Op.equal 55 (.agg #[.int .i64 3,.int .i64 0]) (.agg #[.int .i64 3,.int .i64 0])).run Tryz.prog w= .ok true w:=κ
theorem AiF:AF Tryz.prog 16 [.sl 2 1 (Jc 3),.sl 2 1 (Jc 3)] (.bool true):=by
 refine Au func16 rfl λB D0 hA0=>?_
 exact Ae 25 (Mg 1 (Ae 15 (Cl [(2,Co (.sl 2 1 (Jc 3)) 0,.none),(6,Co (.sl 2 1 (Jc 3)) 0,.none),(8,.bool false,.none)] [0,1,5,25] ⟨Ht 0 1,Ht 0 1,Br (Ld (Zd 55 55 (.tmp 20) (.tmp 24) κ _ _ κ κ κ true An8) (show (!(true):Bool)=false from rfl)),trivial⟩ (Ae 7 (Bo (.int .i64 1) (.int .i64 1) (Ae 24 (Cm)))))))
theorem An9 (w:World):(Op.equal 55 (.agg #[.int .i64 4,.int .i64 0]) (.agg #[.int .i64 4,.int .i64 0])).run Tryz.prog w= .ok true w:=κ
theorem AiG:AF Tryz.prog 16 [.sl 2 1 (Jc 4),.sl 2 1 (Jc 4)] (.bool true):=by
 refine Au func16 rfl λB D0 hA0=>?_
 exact Ae 25 (Mg 1 (Ae 15 (Cl [(2,Co (.sl 2 1 (Jc 4)) 0,.none),(6,Co (.sl 2 1 (Jc 4)) 0,.none),(8,.bool false,.none)] [0,1,5,25] ⟨Ht 0 1,Ht 0 1,Br (Ld (Zd 55 55 (.tmp 20) (.tmp 24) κ _ _ κ κ κ true An9) (show (!(true):Bool)=false from rfl)),trivial⟩ (Ae 7 (Bo (.int .i64 1) (.int .i64 1) (Ae 24 (Cm)))))))
theorem nW:AF Tryz.prog 15 [] (.tup [Ie aA,pmA 500]):=by
 refine Au func15 rfl λB D0 hA0=>?_
 refine Ae 8 (Oh 2 9 1 1 (λxi=> .lit (.string (aA.names.getD xi ByteArray.empty))) ?_)
 refine Ae 1 (Oh 3 33 3 1 (λxi=>Bg (aA.homes.getD xi V3.zero)) ?_)
 refine Ae 2 (Oh 4 93 6 1 (λxi=>mvA ((aA.acts.getD 0 Ac.none).moves.getD xi Mv.none)) ?_)
 refine rD 4 [9] 93 6 1 (λxi=>mvA ((aA.acts.getD 0 Ac.none).moves.getD xi Mv.none)) (Df λ_ _=>rfl) (Ae 1 (Oh 5 61 3 1 (λxi=>Anh (aA.acts.getD xi Ac.none)) ?_))
 refine Ae 5 (Amo 2 6 0 9 1 1 (λxi=> .lit (.string (aA.names.getD xi ByteArray.empty))) (Df λ_ _=>rfl) (Amo 3 6 1 33 3 1 (λxi=>Bg (aA.homes.getD xi V3.zero)) (Df λ_ _=>rfl) (Amo 5 6 2 61 3 1 (λxi=>Anh (aA.acts.getD xi Ac.none)) (Df λ_ _=>rfl) (Ae 6 (Oh 7 33 3 4 (λxi=>Bg (Uv.f xi)) ?_)))))
 refine Ae 1 (wI 18 (.agg [.osl 7 3 4,.lit (.slice none 0 0),.int 0,.int 500]) (.agg [.osl 7 3 4,hsA (Fg 500),.int 0,.int 500]) (Ajh _ _ _ _ _) ?_)
 exact Ae 4 (Amo 7 8 0 33 3 4 (λxi=>Bg (Uv.f xi)) (Df λ_ _=>rfl) (Ae 1 (Cl [] [0,1] trivial (Ae 2 (Cm)))))
structure Pm where
 area:Mh
 fr:Int
 til:Int
 craft:Int
abbrev Uo (x:Pm):AV:= .agg [Cj x.area.o,hsA x.area,.int x.area.low,.int x.area.high,.int x.fr,.int x.til,.int x.craft]
structure yC (x:Pm):Prop where
 ok:Zz x.area
 fr:Cf x.fr
 til:Cf x.til
 craft:Cf x.craft
def pmT (x:Pm):Prop:=0<=x.fr/\x.fr<x.til/\x.til<=86400000/\1<=x.craft/\x.craft<=64
instance (x:Pm):Decidable (pmT x):=by unfold pmT;infer_instance
noncomputable def qJ (x:Pm):Bool:=gB (Pb x.area)&&decide (pmT x)
theorem Aiy {x:Pm} (h:gB (Pb x.area)=false):false=qJ x:=by unfold qJ;rw[h];rfl
theorem Aiz {x:Pm} (h:¬pmT x):false=qJ x:=by unfold qJ;rw[decide_eq_false h,Bool.and_false]
theorem Aly {x:Pm} {p:Prop} [Decidable p] (h:gB (Pb x.area)=true) (hp:p↔pmT x):decide p=qJ x:=by unfold qJ;rw[h,Bool.true_and];exact decide_eq_decide.2 hp
theorem On (x:Pm) (hx:yC x):AF Tryz.prog 28 [Uo x] (.bool (qJ x)):=by
 have h1:=hx.fr
 have h2:=hx.til
 have h3:=hx.craft
 unfold Cf at h1 h2 h3
 have hw:Ai (x.til-1)=x.til-1\/x.til= -9223372036854775808:=(Classical.em (x.til= -9223372036854775808)).elim .inr λh=> .inl (IntWalk.i64_in _ ω)
 refine Au func28 rfl λB D0 hA0=>?_
 refine Ae 10 (Ao (Vi x.area hx.ok) (Ae 1 (vsb 6 (gB (Pb x.area)) (λhx1=>?_) (λhx1=>?_))))
 ·
  refine Ae 4 (Bo (.int .i64 (Ai (x.til-1))) (.int .i64 (Ai (x.til-1))) (Ao (Mx x.fr 0 (Ai (x.til-1))) (Ae 2 (Fy 14 ((0:Int)<=x.fr/\x.fr<=(Ai (x.til-1))) (λhx2 hx2d=>?_) (λhx2 hx2d=>?_)))))
  ·
   refine Ae 2 (Ao (Mx x.til 1 86400000) (Ae 2 (Fy 19 ((1:Int)<=x.til/\x.til<=(86400000:Int)) (λhx3 hx3d=>?_) (λhx3 hx3d=>?_))))
   ·
    exact Ae 2 (Ao (Mx x.craft 1 64) (Ae 5 (Eb (.bool (decide ((1:Int)<=x.craft/\x.craft<=(64:Int)))) (congrArg AV.bool (Aly hx1 (by unfold pmT;omega))))))
   ·
    exact Ae 8 (Eb (.bool false) (congrArg AV.bool (Aiz (by unfold pmT;omega))))
  ·
   exact Ae 13 (Eb (.bool false) (congrArg AV.bool (Aiz (by unfold pmT;omega))))
 ·
  exact Ae 21 (Eb (.bool false) (congrArg AV.bool (Aiy hx1)))
abbrev Iv (x:Int×Int):AV:= .lit (.agg #[.int .i64 x.1,.int .i64 x.2])
abbrev lkV (L:List (Int×Int)):AV:= .sl 2 L.length λi=>Iv (L.getD i (0,0))
theorem An6 (x y x' y':Int) (w:World):(Op.equal 55 (.agg #[.int .i64 x,.int .i64 y]) (.agg #[.int .i64 x',.int .i64 y'])).run Tryz.prog w= .ok (decide (x=x'/\y=y')) w:=by
 have h55:=Tryz.runUnderlying55
 have h3:=Tryz.runUnderlying3
 have ha:=isAgg3
 have h5:=Tryz.runUnderlying53
 have hb:=isAgg53
 have hin:Tryz.prog.stoodInHeld 55=false:=κ
 unfold Op.equal
 rw[show Op.maxDepth=9998+1+1 from rfl]
 unfold Op.equalIn
 simp[h55,part,ha,hb,hin]
 unfold Op.equalIn
 simp[h3,h5]
 by_cases h1:x=x'<;>by_cases h2:y=y'<;>simp[h1,h2]
def Qn (l:List (Int×Int)) (f:Nat->Bool):Nat->List (Int×Int)
 |0=>l
 |i+1=>if f i=true then Qn l f i++[(4,(i:Int))] else Qn l f i
theorem Gm {l:List (Int×Int)} {f:Nat->Bool} {i:Nat} (h:f i=true):Qn l f (i+1)=Qn l f i++[(4,(i:Int))]:=if_pos h
theorem Ug {l:List (Int×Int)} {f:Nat->Bool} {i:Nat} (h:f i=false):Qn l f (i+1)=Qn l f i:=if_neg (by rw[h];decide)
theorem Qc (l:List (Int×Int)) (e:Int×Int) (i:Nat):(l++[e]).getD i (0,0)=if i<l.length then l.getD i (0,0) else if i=l.length then e else (0,0):=by
 simp only[Γ]
 split
 rename_i h;rw[List.getElem?_append_left h]
 rename_i h
 rw[List.getElem?_append_right ω]
 split
 rename_i h2;rw[h2,Nat.sub_self];rfl
 rename_i h2;rw[List.getElem?_eq_none (by simp;omega)];rfl
noncomputable abbrev lkI (x:Pm) (p:Pr) (i:Nat):Value:=Lr x.area (Hj p p.acts.length i)
noncomputable def Qm (x:Pm) (p:Pr) (i:Nat):Bool:= !(decide (gI (gT (lkI x p i) 1)=0))|| !(gB (gT (lkI x p i) 0))
theorem cE {x:Pm} {p:Pr} {i:Nat} (h:decide (gI (gT (lkI x p i) 1)=0)=false):Qm x p i=true:=by unfold Qm;rw[h];rfl
theorem cD {x:Pm} {p:Pr} {i:Nat} (h:decide (gI (gT (lkI x p i) 1)=0)=true) (h2:gB (gT (lkI x p i) 0)=false):Qm x p i=true:=by unfold Qm;rw[h,h2];rfl
theorem gU {x:Pm} {p:Pr} {i:Nat} (h:decide (gI (gT (lkI x p i) 1)=0)=true) (h2:gB (gT (lkI x p i) 0)=true):Qm x p i=false:=by unfold Qm;rw[h,h2];rfl
def wU (x:Pm) (p:Pr) (st:Int):List (Int×Int):=(if x.craft<(p.names.length:Int) then [(1,0)] else [])++(if st<x.fr then [(2,0)] else [])++(if x.til<st+Fo p.acts p.acts.length then [(3,0)] else [])
noncomputable def Ka (x:Pm) (p:Pr) (st:Int):List (Int×Int):=Qn (wU x p st) (Qm x p) p.names.length
theorem zY {L L':List (Int×Int)} {n:Nat} (h:L'=L) (hn:n=L.length):(.tup [.sl 2 n λxi=>Iv (L.getD xi (0,0)),.int 0]:AV)= .tup [lkV L',.int 0]:=by subst h hn;rfl
theorem Abw (l:List (Int×Int)) (f:Nat->Bool):∀i,(Qn l f i).length<=l.length+i
 |0=>Nat.le_refl _
 |i+1=>by
  have:=Abw l f i
  unfold Qn
  split
  rw[List.length_append];simp;omega
  omega
theorem AoN (e:Nat) (f:Nat->AV) (E:As) (v:Value) (h:VR E (.lit (.slice none 0 0)) v):VR E (.sl e 0 f) v:=by
 have h2:v= .slice none 0 0:=h.lit_inv
 rw[h2]
 exact .sl0 _ _ _ _ _
def Aoh:Nat->Code->Code
 |n+1,.seq _ y=>Aoh n y
 |_,c=>c
def AqU:Code->Code
 | .seq x _=>x
 |c=>c
def fP (f:Func) (m:Nat):Code:=match f.body with|some c=>Aoh m c|none=> .skip
theorem Vy {P:Program} {R:Option Nat} {B:Nat} {D0:As} {Q:Exit->St->Prop} {c:Bu} (keep:List Nat) (ρ:List (Nat×Nat)) (nx k0:Nat) (hA0:∀id,D0.A id->id<k0) (L:yH) (hfl:mE L) {c':Bu} (h:Go P R B D0 Q c') (hv:cO c.s.h=L:=by kernel_rfl) (hc:(⟨c.m,c.k,⟨mapT (Vx ρ) (Ke keep c.s).t,Aar ρ c.s.h,nx,c.s.n⟩⟩:Bu)=c':=by kernel_rfl) (hd:Km (ρ.map (·.2))=true:=by kernel_rfl) (hd1:Km (ρ.map (·.1))=true:=by kernel_rfl) (hl:(ρ.all λp=>(Aq c.s.h p.1).isSome&&Nat.blt p.2 nx)=true:=by kernel_rfl) (hk0:(Nat.ble k0 nx&&ρ.all λp=>Nat.beq p.1 p.2||Nat.ble k0 p.2)=true:=by kernel_rfl):Go P R B D0 Q c:=by
 subst hc
 exact Fu _ (Ho.trans (Gr keep c.s) λE a hs'=>eB (s:=Ke keep c.s) ρ nx k0 hA0 _ rfl hd hd1 hl hk0 (Ns hv hfl) E a hs') h
theorem Wt (x:Pm) (p:Pr) (st:Int) (hx:yC x) (hp:fF p) (hE:Hd) (hv:qJ x=true) (h:Ef p=true) (hs:0<=st/\st<=86400000) (hk:0<p.acts.length):AF Tryz.prog 13 [Uo x,Ie p,.int st] (.tup [lkV (Ka x p st),.int 0]):=by
 have ho:=Vb h
 have hT:=ho.ends p.acts.length ζ
 have hpn:=ho.n1
 refine Au func13 rfl λB D0 hA0=>?_
 have tail0:([]:List (Int×Int))=wU x p st->Go Tryz.prog none B D0 (QF Tryz.prog B D0 Tryz.f13 (.tup [lkV (Ka x p st),.int 0])) ⟨.code (fP Tryz.f13 5),[],⟨[(3,.ptr 0 0),(4,.ptr 1 0),(10,.lit (.slice none 0 0))],[(0,.box 27 [Cj x.area.o,hsA x.area,.lit (.int .i64 x.area.low),.lit (.int .i64 x.area.high),.lit (.int .i64 x.fr),.lit (.int .i64 x.til),.lit (.int .i64 x.craft)]),(1,.box 31 [Jj p.names,Oi p.homes,Lh p.acts])],2,99⟩⟩:=by
   intro hL
   refine Ae 3 (Ao (Ro p hp h hk) (Ae 16 (vlp [3,10,72,73,74] (λm s=>∃q n,q<=p.names.length/\m=p.names.length-q/\(n=(Qn ([]:List (Int×Int)) (Qm x p) q).length/\n<=3+q)/\(((n=0)/\s=⟨[(3,.ptr 0 0),(10,.lit (.slice none 0 0)),(72,.sl 1 p.names.length (λi0=>Gf (Hj p p.acts.length i0))),(73,.int (p.names.length:Int)),(74,.int (q:Int))],[(0,.box 27 [Cj x.area.o,hsA x.area,.int x.area.low,.int x.area.high,.int x.fr,.int x.til,.int x.craft]),(1,.box 31 [Jj p.names,Oi p.homes,Lh p.acts])],2,99⟩)\/((0<n)/\s=⟨[(3,.ptr 0 0),(10,.osl 50 2 n),(72,.sl 1 p.names.length (λi0=>Gf (Hj p p.acts.length i0))),(73,.int (p.names.length:Int)),(74,.int (q:Int))],[(0,.box 27 [Cj x.area.o,hsA x.area,.int x.area.low,.int x.area.high,.int x.fr,.int x.til,.int x.craft]),(1,.box 31 [Jj p.names,Oi p.homes,Lh p.acts]),(50,.vec 55 2 n (λxi=>Iv ((Qn ([]:List (Int×Int)) (Qm x p) q).getD xi (0,0))))],51,99⟩))) p.names.length ⟨0,0,Nat.zero_le _,rfl,⟨rfl,ω⟩,(.inl ⟨rfl,κ⟩)⟩ ?_)))
   rintro _ _ ⟨q,n,hqn,rfl,hFq,(⟨hq0,rfl⟩|⟨hq0,rfl⟩)⟩ J1 hJ1
   ·
    refine Ae 6 (Fy 75 ((q:Int)<(p.names.length:Int)) (λhx201 hx201d=>?_) (λhx201 hx201d=>?_))
    ·
     refine Ae 8 (Fd q p.names.length (Ae 10 (Ao (Wr x.area (Hj p p.acts.length q) ⟨hE,hx.ok,(Aao h hk ω).pin⟩) (Ae 12 (wJ 88 ((gI (gT (Lr x.area (Hj p p.acts.length q)) 1))=0) (λhx202 hx202d=>?_) (λhx202 hx202d=>?_))))))
     ·
      refine Ae 5 (wH 91 (gB (gT (Lr x.area (Hj p p.acts.length q)) 0)) (λhx203=>?_) (λhx203=>?_))
      ·
       exact Ae 5 (Dd ((q:Int)+1) ((q+1:Nat):Int) (Ae 2 (rE [3,10,72,73,74] (hJ1 _ _ (by omega:p.names.length-(q+1)<p.names.length-q) ⟨q+1,0,ω,rfl,⟨by rw[Ug (gU hx202 hx203)];omega,ω⟩,(.inl ⟨ω,rfl⟩)⟩))))
      ·
       refine Ae 5 (Oh 2 55 2 1 (λ_=> .lit (.agg #[.int .i64 4,.int .i64 (q:Int)])) ?_)
       refine rC 16 55 55 2 1 2 3 (λ_=> .lit (.agg #[.int .i64 4,.int .i64 (q:Int)])) (λxi=>Iv ((Qn ([]:List (Int×Int)) (Qm x p) (q+1)).getD xi (0,0))) (λi hi=>by(obtain rfl:i=0:=(ω));show Iv _=Iv (4,(q:Int));rw[Gm (cD hx202 hx203),Qc,if_neg ω,if_pos ω]) ?_
       exact Ae 5 (Dd ((q:Int)+1) ((q+1:Nat):Int) (Ae 2 (Tf [3,10,72,73,74] [(0,0),(1,1),(3,50)] 51 0 hA0 [(55,2,1,(λ_=> .lit (.agg #[.int .i64 4,.int .i64 (q:Int)]))),(55,2,1,(λxi=>Iv ((Qn ([]:List (Int×Int)) (Qm x p) (q+1)).getD xi (0,0))))] ⟨(Df λ_ _=>rfl),(Df λ_ _=>rfl),trivial⟩ (hJ1 _ _ (by omega:p.names.length-(q+1)<p.names.length-q) ⟨q+1,1,ω,rfl,⟨by rw[Gm (cD hx202 hx203),List.length_append,List.length_singleton];omega,ω⟩,(.inr ⟨ω,rfl⟩)⟩))))
     ·
      refine Ae 10 (Oh 2 55 2 1 (λ_=> .lit (.agg #[.int .i64 4,.int .i64 (q:Int)])) ?_)
      refine rC 16 55 55 2 1 2 3 (λ_=> .lit (.agg #[.int .i64 4,.int .i64 (q:Int)])) (λxi=>Iv ((Qn ([]:List (Int×Int)) (Qm x p) (q+1)).getD xi (0,0))) (λi hi=>by(obtain rfl:i=0:=(ω));show Iv _=Iv (4,(q:Int));rw[Gm (cE hx202),Qc,if_neg ω,if_pos ω]) ?_
      exact Ae 5 (Dd ((q:Int)+1) ((q+1:Nat):Int) (Ae 2 (Tf [3,10,72,73,74] [(0,0),(1,1),(3,50)] 51 0 hA0 [(55,2,1,(λ_=> .lit (.agg #[.int .i64 4,.int .i64 (q:Int)]))),(55,2,1,(λxi=>Iv ((Qn ([]:List (Int×Int)) (Qm x p) (q+1)).getD xi (0,0))))] ⟨(Df λ_ _=>rfl),(Df λ_ _=>rfl),trivial⟩ (hJ1 _ _ (by omega:p.names.length-(q+1)<p.names.length-q) ⟨q+1,1,ω,rfl,⟨by rw[Gm (cE hx202),List.length_append,List.length_singleton];omega,ω⟩,(.inr ⟨ω,rfl⟩)⟩))))
    ·
     refine Ae 8 (wI 10 (.lit (.slice none 0 0)) (.sl 2 0 (λxi=>Iv ((Qn ([]:List (Int×Int)) (Qm x p) q).getD xi (0,0)))) (AoN _ _) ?_)
     exact Ae 6 (Eb (.tup [.sl 2 0 (λxi=>Iv ((Qn ([]:List (Int×Int)) (Qm x p) q).getD xi (0,0))),.int 0]) (zY (by unfold Ka;rw[<-hL,<-show q=p.names.length by omega]) ω))
   ·
    refine Ae 6 (Fy 75 ((q:Int)<(p.names.length:Int)) (λhx204 hx204d=>?_) (λhx204 hx204d=>?_))
    ·
     refine Ae 8 (Fd q p.names.length (Ae 10 (Ao (Wr x.area (Hj p p.acts.length q) ⟨hE,hx.ok,(Aao h hk ω).pin⟩) (Ae 12 (wJ 88 ((gI (gT (Lr x.area (Hj p p.acts.length q)) 1))=0) (λhx205 hx205d=>?_) (λhx205 hx205d=>?_))))))
     ·
      refine Ae 5 (wH 91 (gB (gT (Lr x.area (Hj p p.acts.length q)) 0)) (λhx206=>?_) (λhx206=>?_))
      ·
       exact Ae 5 (Dd ((q:Int)+1) ((q+1:Nat):Int) (Ae 2 (kM 50 55 2 n (λxi=>Iv ((Qn ([]:List (Int×Int)) (Qm x p) q).getD xi (0,0))) (λxi=>Iv ((Qn ([]:List (Int×Int)) (Qm x p) (q+1)).getD xi (0,0))) (λx9 hx9=>by rw[Ug (gU hx205 hx206)]) (rE [3,10,72,73,74] (hJ1 _ _ (by omega:p.names.length-(q+1)<p.names.length-q) ⟨q+1,n,ω,rfl,⟨by rw[Ug (gU hx205 hx206)];omega,ω⟩,(.inr ⟨ω,rfl⟩)⟩)))))
      ·
       refine Ae 5 (Oh 51 55 2 1 (λ_=> .lit (.agg #[.int .i64 4,.int .i64 (q:Int)])) ?_)
       refine Xo 16 55 55 2 n 1 50 51 52 (λxi=>Iv ((Qn ([]:List (Int×Int)) (Qm x p) q).getD xi (0,0))) (λ_=> .lit (.agg #[.int .i64 4,.int .i64 (q:Int)])) (λxi=>Iv ((Qn ([]:List (Int×Int)) (Qm x p) (q+1)).getD xi (0,0))) (λi hi=>by show Iv _=Iv _;rw[Gm (cD hx205 hx206),Qc,if_pos ω]) (λi hi=>by(obtain rfl:i=0:=(ω));show Iv _=Iv (4,(q:Int));rw[Gm (cD hx205 hx206),Qc,if_neg ω,if_pos ω]) ?_
       exact Ae 5 (Dd ((q:Int)+1) ((q+1:Nat):Int) (Ae 2 (Tf [3,10,72,73,74] [(0,0),(1,1),(52,50)] 51 0 hA0 [(55,2,1,(λ_=> .lit (.agg #[.int .i64 4,.int .i64 (q:Int)]))),(55,2,n+1,(λxi=>Iv ((Qn ([]:List (Int×Int)) (Qm x p) (q+1)).getD xi (0,0))))] ⟨(Df λ_ _=>rfl),(Df λ_ _=>rfl),trivial⟩ (hJ1 _ _ (by omega:p.names.length-(q+1)<p.names.length-q) ⟨q+1,n+1,ω,rfl,⟨by rw[Gm (cD hx205 hx206),List.length_append,List.length_singleton];omega,ω⟩,(.inr ⟨ω,rfl⟩)⟩))))
     ·
      refine Ae 10 (Oh 51 55 2 1 (λ_=> .lit (.agg #[.int .i64 4,.int .i64 (q:Int)])) ?_)
      refine Xo 16 55 55 2 n 1 50 51 52 (λxi=>Iv ((Qn ([]:List (Int×Int)) (Qm x p) q).getD xi (0,0))) (λ_=> .lit (.agg #[.int .i64 4,.int .i64 (q:Int)])) (λxi=>Iv ((Qn ([]:List (Int×Int)) (Qm x p) (q+1)).getD xi (0,0))) (λi hi=>by show Iv _=Iv _;rw[Gm (cE hx205),Qc,if_pos ω]) (λi hi=>by(obtain rfl:i=0:=(ω));show Iv _=Iv (4,(q:Int));rw[Gm (cE hx205),Qc,if_neg ω,if_pos ω]) ?_
      exact Ae 5 (Dd ((q:Int)+1) ((q+1:Nat):Int) (Ae 2 (Tf [3,10,72,73,74] [(0,0),(1,1),(52,50)] 51 0 hA0 [(55,2,1,(λ_=> .lit (.agg #[.int .i64 4,.int .i64 (q:Int)]))),(55,2,n+1,(λxi=>Iv ((Qn ([]:List (Int×Int)) (Qm x p) (q+1)).getD xi (0,0))))] ⟨(Df λ_ _=>rfl),(Df λ_ _=>rfl),trivial⟩ (hJ1 _ _ (by omega:p.names.length-(q+1)<p.names.length-q) ⟨q+1,n+1,ω,rfl,⟨by rw[Gm (cE hx205),List.length_append,List.length_singleton];omega,ω⟩,(.inr ⟨ω,rfl⟩)⟩))))
    ·
     exact Ae 13 (rD 50 [6] 55 2 n (λxi=>Iv ((Qn ([]:List (Int×Int)) (Qm x p) q).getD xi (0,0))) (Df λ_ _=>rfl) (Ae 1 (Eb (.tup [.sl 2 n (λxi=>Iv ((Qn ([]:List (Int×Int)) (Qm x p) q).getD xi (0,0))),.int 0]) (zY (by unfold Ka;rw[<-hL,<-show q=p.names.length by omega]) ω))))
 have tail1:∀L:List (Int×Int),L=wU x p st->0<L.length->L.length<=3->Go Tryz.prog none B D0 (QF Tryz.prog B D0 Tryz.f13 (.tup [lkV (Ka x p st),.int 0])) ⟨.code (fP Tryz.f13 5),[],⟨[(3,.ptr 0 0),(4,.ptr 1 0),(10,.osl 2 2 L.length)],[(0,.box 27 [Cj x.area.o,hsA x.area,.lit (.int .i64 x.area.low),.lit (.int .i64 x.area.high),.lit (.int .i64 x.fr),.lit (.int .i64 x.til),.lit (.int .i64 x.craft)]),(1,.box 31 [Jj p.names,Oi p.homes,Lh p.acts]),(2,.vec 55 2 L.length (λxi=>Iv (L.getD xi (0,0))))],3,99⟩⟩:=by
   intro L hL hL0 hL3
   refine Ae 3 (Ao (Ro p hp h hk) (Ae 16 (kM 2 55 2 L.length (λxi=>Iv (L.getD xi (0,0))) (λxi=>Iv ((Qn L (Qm x p) 0).getD xi (0,0))) (λx9 hx9=>rfl) (vlp [3,10,72,73,74] (λm s=>∃q n,q<=p.names.length/\m=p.names.length-q/\(n=(Qn L (Qm x p) q).length/\n<=3+q)/\((0<n)/\s=⟨[(3,.ptr 0 0),(10,.osl 2 2 n),(72,.sl 1 p.names.length (λi0=>Gf (Hj p p.acts.length i0))),(73,.int (p.names.length:Int)),(74,.int (q:Int))],[(0,.box 27 [Cj x.area.o,hsA x.area,.int x.area.low,.int x.area.high,.int x.fr,.int x.til,.int x.craft]),(1,.box 31 [Jj p.names,Oi p.homes,Lh p.acts]),(2,.vec 55 2 n (λxi=>Iv ((Qn L (Qm x p) q).getD xi (0,0))))],3,99⟩)) p.names.length ⟨0,L.length,Nat.zero_le _,rfl,⟨rfl,ω⟩,⟨ω,κ⟩⟩ ?_))))
   rintro _ _ ⟨q,n,hqn,rfl,hFq,(⟨hq0,rfl⟩)⟩ J1 hJ1
   ·
    refine Ae 6 (Fy 75 ((q:Int)<(p.names.length:Int)) (λhx101 hx101d=>?_) (λhx101 hx101d=>?_))
    ·
     refine Ae 8 (Fd q p.names.length (Ae 10 (Ao (Wr x.area (Hj p p.acts.length q) ⟨hE,hx.ok,(Aao h hk ω).pin⟩) (Ae 12 (wJ 88 ((gI (gT (Lr x.area (Hj p p.acts.length q)) 1))=0) (λhx102 hx102d=>?_) (λhx102 hx102d=>?_))))))
     ·
      refine Ae 5 (wH 91 (gB (gT (Lr x.area (Hj p p.acts.length q)) 0)) (λhx103=>?_) (λhx103=>?_))
      ·
       exact Ae 5 (Dd ((q:Int)+1) ((q+1:Nat):Int) (Ae 2 (kM 2 55 2 n (λxi=>Iv ((Qn L (Qm x p) q).getD xi (0,0))) (λxi=>Iv ((Qn L (Qm x p) (q+1)).getD xi (0,0))) (λx9 hx9=>by rw[Ug (gU hx102 hx103)]) (rE [3,10,72,73,74] (hJ1 _ _ (by omega:p.names.length-(q+1)<p.names.length-q) ⟨q+1,n,ω,rfl,⟨by rw[Ug (gU hx102 hx103)];omega,ω⟩,⟨ω,rfl⟩⟩)))))
      ·
       refine Ae 5 (Oh 3 55 2 1 (λ_=> .lit (.agg #[.int .i64 4,.int .i64 (q:Int)])) ?_)
       refine Xo 16 55 55 2 n 1 2 3 4 (λxi=>Iv ((Qn L (Qm x p) q).getD xi (0,0))) (λ_=> .lit (.agg #[.int .i64 4,.int .i64 (q:Int)])) (λxi=>Iv ((Qn L (Qm x p) (q+1)).getD xi (0,0))) (λi hi=>by show Iv _=Iv _;rw[Gm (cD hx102 hx103),Qc,if_pos ω]) (λi hi=>by(obtain rfl:i=0:=(ω));show Iv _=Iv (4,(q:Int));rw[Gm (cD hx102 hx103),Qc,if_neg ω,if_pos ω]) ?_
       exact Ae 5 (Dd ((q:Int)+1) ((q+1:Nat):Int) (Ae 2 (Tf [3,10,72,73,74] [(0,0),(1,1),(4,2)] 3 0 hA0 [(55,2,1,(λ_=> .lit (.agg #[.int .i64 4,.int .i64 (q:Int)]))),(55,2,n+1,(λxi=>Iv ((Qn L (Qm x p) (q+1)).getD xi (0,0))))] ⟨(Df λ_ _=>rfl),(Df λ_ _=>rfl),trivial⟩ (hJ1 _ _ (by omega:p.names.length-(q+1)<p.names.length-q) ⟨q+1,n+1,ω,rfl,⟨by rw[Gm (cD hx102 hx103),List.length_append,List.length_singleton];omega,ω⟩,⟨ω,rfl⟩⟩))))
     ·
      refine Ae 10 (Oh 3 55 2 1 (λ_=> .lit (.agg #[.int .i64 4,.int .i64 (q:Int)])) ?_)
      refine Xo 16 55 55 2 n 1 2 3 4 (λxi=>Iv ((Qn L (Qm x p) q).getD xi (0,0))) (λ_=> .lit (.agg #[.int .i64 4,.int .i64 (q:Int)])) (λxi=>Iv ((Qn L (Qm x p) (q+1)).getD xi (0,0))) (λi hi=>by show Iv _=Iv _;rw[Gm (cE hx102),Qc,if_pos ω]) (λi hi=>by(obtain rfl:i=0:=(ω));show Iv _=Iv (4,(q:Int));rw[Gm (cE hx102),Qc,if_neg ω,if_pos ω]) ?_
      exact Ae 5 (Dd ((q:Int)+1) ((q+1:Nat):Int) (Ae 2 (Tf [3,10,72,73,74] [(0,0),(1,1),(4,2)] 3 0 hA0 [(55,2,1,(λ_=> .lit (.agg #[.int .i64 4,.int .i64 (q:Int)]))),(55,2,n+1,(λxi=>Iv ((Qn L (Qm x p) (q+1)).getD xi (0,0))))] ⟨(Df λ_ _=>rfl),(Df λ_ _=>rfl),trivial⟩ (hJ1 _ _ (by omega:p.names.length-(q+1)<p.names.length-q) ⟨q+1,n+1,ω,rfl,⟨by rw[Gm (cE hx102),List.length_append,List.length_singleton];omega,ω⟩,⟨ω,rfl⟩⟩))))
    ·
     exact Ae 13 (rD 2 [6] 55 2 n (λxi=>Iv ((Qn L (Qm x p) q).getD xi (0,0))) (Df λ_ _=>rfl) (Ae 1 (Eb (.tup [.sl 2 n (λxi=>Iv ((Qn L (Qm x p) q).getD xi (0,0))),.int 0]) (zY (by unfold Ka;rw[<-hL,<-show q=p.names.length by omega]) ω))))
 refine Ae 14 (Ao (by have h9:=On x hx;rwa [hv] at h9) (Ae 8 (Ao (by have h9:=Hb p hp;rwa [h] at h9) (Ae 7 (Ao (It st 0 86400000 ω) (Ae 11 (La 33 (decide ((p.acts.length:Int)=0)) false (decide_eq_false ω) (Ae 10 (Ao (lH p hp h) (Ae 27 (Dd (st+(Fo p.acts p.acts.length)) (st+(Fo p.acts p.acts.length)) (Ae 8 (Mg 4 (Ae 14 (Bo (.bool false) (.bool false) (Ae 14 (Bo (.int .i64 1) (.int .i64 1) (Ae 17 (Bo (.bool (decide (x.craft<(p.names.length:Int)))) (.bool (decide (x.craft<(p.names.length:Int)))) (Ae 9 (Fy 60 (x.craft<(p.names.length:Int)) (λhx301 hx301d=>?_) (λhx301 hx301d=>?_))))))))))))))))))))))
 ·
  refine Ae 5 (Oh 2 55 2 1 (λ_=> .lit (.agg #[.int .i64 1,.int .i64 0])) ?_)
  refine rC 16 55 55 2 1 2 3 (λ_=> .lit (.agg #[.int .i64 1,.int .i64 0])) (λ_=> .lit (.agg #[.int .i64 1,.int .i64 0])) (λi hi=>rfl) ?_
  refine Ae 5 (Bo (.int .i64 2) (.int .i64 2) (Ae 17 (Bo (.bool (decide (st<x.fr))) (.bool (decide (st<x.fr))) (Ae 9 (Fy 60 (st<x.fr) (λhx302 hx302d=>?_) (λhx302 hx302d=>?_))))))
  ·
   refine Ae 5 (Oh 4 55 2 1 (λ_=> .lit (.agg #[.int .i64 2,.int .i64 0])) ?_)
   refine Xo 16 55 55 2 1 1 3 4 5 (λ_=> .lit (.agg #[.int .i64 1,.int .i64 0])) (λ_=> .lit (.agg #[.int .i64 2,.int .i64 0])) (λxi=>if xi<1 then (λ_=> .lit (.agg #[.int .i64 1,.int .i64 0])) xi else (λ_=> .lit (.agg #[.int .i64 2,.int .i64 0])) (xi-1)) (λi hi=>by simp[hi]) (λi hi=>by simp) ?_
   refine Ae 5 (Bo (.int .i64 3) (.int .i64 3) (Ae 17 (Bo (.bool (decide (x.til<st+(Fo p.acts p.acts.length)))) (.bool (decide (x.til<st+(Fo p.acts p.acts.length)))) (Ae 9 (Fy 60 (x.til<st+(Fo p.acts p.acts.length)) (λhx303 hx303d=>?_) (λhx303 hx303d=>?_))))))
   ·
    refine Ae 5 (Oh 6 55 2 1 (λ_=> .lit (.agg #[.int .i64 3,.int .i64 0])) ?_)
    refine Xo 16 55 55 2 (1+1) 1 5 6 7 (λxi=>if xi<1 then (λ_=> .lit (.agg #[.int .i64 1,.int .i64 0])) xi else (λ_=> .lit (.agg #[.int .i64 2,.int .i64 0])) (xi-1)) (λ_=> .lit (.agg #[.int .i64 3,.int .i64 0])) (λxi=>if xi<1+1 then (λxi=>if xi<1 then (λ_=> .lit (.agg #[.int .i64 1,.int .i64 0])) xi else (λ_=> .lit (.agg #[.int .i64 2,.int .i64 0])) (xi-1)) xi else (λ_=> .lit (.agg #[.int .i64 3,.int .i64 0])) (xi-1+1)) (λi hi=>by simp[hi]) (λi hi=>by simp) ?_
    exact Ae 5 (Bo (.int .i64 4) (.int .i64 4) (Ae 15 (kM 7 55 2 (1+1+1) (λxi=>if xi<1+1 then (λxi=>if xi<1 then (λ_=> .lit (.agg #[.int .i64 1,.int .i64 0])) xi else (λ_=> .lit (.agg #[.int .i64 2,.int .i64 0])) (xi-1)) xi else (λ_=> .lit (.agg #[.int .i64 3,.int .i64 0])) (xi-1+1)) (λxi=>Iv (([(1,0),(2,0),(3,0)]:List (Int×Int)).getD xi (0,0))) (λx9 hx9=>match x9,hx9 with|0,_=>rfl|1,_=>rfl|2,_=>rfl|_+3,h9=>absurd h9 ω) (Vy [3,4,10] [(0,0),(1,1),(7,2)] 3 0 hA0 [(55,2,1,(λ_=> .lit (.agg #[.int .i64 1,.int .i64 0]))),(55,2,1,(λ_=> .lit (.agg #[.int .i64 2,.int .i64 0]))),(55,2,1,(λ_=> .lit (.agg #[.int .i64 3,.int .i64 0]))),(55,2,1+1+1,(λxi=>Iv (([(1,0),(2,0),(3,0)]:List (Int×Int)).getD xi (0,0))))] ⟨(Df λ_ _=>rfl),(Df λ_ _=>rfl),(Df λ_ _=>rfl),(Df λ_ _=>rfl),trivial⟩ (tail1 ([(1,0),(2,0),(3,0)]:List (Int×Int)) (by unfold wU;rw[if_pos hx301d,if_pos hx302d,if_pos hx303d];rfl) δ δ)))))
   ·
    exact Ae 5 (Bo (.int .i64 4) (.int .i64 4) (Ae 15 (kM 5 55 2 (1+1) (λxi=>if xi<1 then (λ_=> .lit (.agg #[.int .i64 1,.int .i64 0])) xi else (λ_=> .lit (.agg #[.int .i64 2,.int .i64 0])) (xi-1)) (λxi=>Iv (([(1,0),(2,0)]:List (Int×Int)).getD xi (0,0))) (λx9 hx9=>match x9,hx9 with|0,_=>rfl|1,_=>rfl|_+2,h9=>absurd h9 ω) (Vy [3,4,10] [(0,0),(1,1),(5,2)] 3 0 hA0 [(55,2,1,(λ_=> .lit (.agg #[.int .i64 1,.int .i64 0]))),(55,2,1,(λ_=> .lit (.agg #[.int .i64 2,.int .i64 0]))),(55,2,1+1,(λxi=>Iv (([(1,0),(2,0)]:List (Int×Int)).getD xi (0,0))))] ⟨(Df λ_ _=>rfl),(Df λ_ _=>rfl),(Df λ_ _=>rfl),trivial⟩ (tail1 ([(1,0),(2,0)]:List (Int×Int)) (by unfold wU;rw[if_pos hx301d,if_pos hx302d,if_neg hx303d];rfl) δ δ)))))
  ·
   refine Ae 5 (Bo (.int .i64 3) (.int .i64 3) (Ae 17 (Bo (.bool (decide (x.til<st+(Fo p.acts p.acts.length)))) (.bool (decide (x.til<st+(Fo p.acts p.acts.length)))) (Ae 9 (Fy 60 (x.til<st+(Fo p.acts p.acts.length)) (λhx304 hx304d=>?_) (λhx304 hx304d=>?_))))))
   ·
    refine Ae 5 (Oh 4 55 2 1 (λ_=> .lit (.agg #[.int .i64 3,.int .i64 0])) ?_)
    refine Xo 16 55 55 2 1 1 3 4 5 (λ_=> .lit (.agg #[.int .i64 1,.int .i64 0])) (λ_=> .lit (.agg #[.int .i64 3,.int .i64 0])) (λxi=>if xi<1 then (λ_=> .lit (.agg #[.int .i64 1,.int .i64 0])) xi else (λ_=> .lit (.agg #[.int .i64 3,.int .i64 0])) (xi-1)) (λi hi=>by simp[hi]) (λi hi=>by simp) ?_
    exact Ae 5 (Bo (.int .i64 4) (.int .i64 4) (Ae 15 (kM 5 55 2 (1+1) (λxi=>if xi<1 then (λ_=> .lit (.agg #[.int .i64 1,.int .i64 0])) xi else (λ_=> .lit (.agg #[.int .i64 3,.int .i64 0])) (xi-1)) (λxi=>Iv (([(1,0),(3,0)]:List (Int×Int)).getD xi (0,0))) (λx9 hx9=>match x9,hx9 with|0,_=>rfl|1,_=>rfl|_+2,h9=>absurd h9 ω) (Vy [3,4,10] [(0,0),(1,1),(5,2)] 3 0 hA0 [(55,2,1,(λ_=> .lit (.agg #[.int .i64 1,.int .i64 0]))),(55,2,1,(λ_=> .lit (.agg #[.int .i64 3,.int .i64 0]))),(55,2,1+1,(λxi=>Iv (([(1,0),(3,0)]:List (Int×Int)).getD xi (0,0))))] ⟨(Df λ_ _=>rfl),(Df λ_ _=>rfl),(Df λ_ _=>rfl),trivial⟩ (tail1 ([(1,0),(3,0)]:List (Int×Int)) (by unfold wU;rw[if_pos hx301d,if_neg hx302d,if_pos hx304d];rfl) δ δ)))))
   ·
    exact Ae 5 (Bo (.int .i64 4) (.int .i64 4) (Ae 15 (kM 3 55 2 1 (λ_=> .lit (.agg #[.int .i64 1,.int .i64 0])) (λxi=>Iv (([(1,0)]:List (Int×Int)).getD xi (0,0))) (λx9 hx9=>match x9,hx9 with|0,_=>rfl|_+1,h9=>absurd h9 ω) (Vy [3,4,10] [(0,0),(1,1),(3,2)] 3 0 hA0 [(55,2,1,(λ_=> .lit (.agg #[.int .i64 1,.int .i64 0]))),(55,2,1,(λxi=>Iv (([(1,0)]:List (Int×Int)).getD xi (0,0))))] ⟨(Df λ_ _=>rfl),(Df λ_ _=>rfl),trivial⟩ (tail1 ([(1,0)]:List (Int×Int)) (by unfold wU;rw[if_pos hx301d,if_neg hx302d,if_neg hx304d];rfl) δ δ)))))
 ·
  refine Ae 5 (Bo (.int .i64 2) (.int .i64 2) (Ae 17 (Bo (.bool (decide (st<x.fr))) (.bool (decide (st<x.fr))) (Ae 9 (Fy 60 (st<x.fr) (λhx305 hx305d=>?_) (λhx305 hx305d=>?_))))))
  ·
   refine Ae 5 (Oh 2 55 2 1 (λ_=> .lit (.agg #[.int .i64 2,.int .i64 0])) ?_)
   refine rC 16 55 55 2 1 2 3 (λ_=> .lit (.agg #[.int .i64 2,.int .i64 0])) (λ_=> .lit (.agg #[.int .i64 2,.int .i64 0])) (λi hi=>rfl) ?_
   refine Ae 5 (Bo (.int .i64 3) (.int .i64 3) (Ae 17 (Bo (.bool (decide (x.til<st+(Fo p.acts p.acts.length)))) (.bool (decide (x.til<st+(Fo p.acts p.acts.length)))) (Ae 9 (Fy 60 (x.til<st+(Fo p.acts p.acts.length)) (λhx306 hx306d=>?_) (λhx306 hx306d=>?_))))))
   ·
    refine Ae 5 (Oh 4 55 2 1 (λ_=> .lit (.agg #[.int .i64 3,.int .i64 0])) ?_)
    refine Xo 16 55 55 2 1 1 3 4 5 (λ_=> .lit (.agg #[.int .i64 2,.int .i64 0])) (λ_=> .lit (.agg #[.int .i64 3,.int .i64 0])) (λxi=>if xi<1 then (λ_=> .lit (.agg #[.int .i64 2,.int .i64 0])) xi else (λ_=> .lit (.agg #[.int .i64 3,.int .i64 0])) (xi-1)) (λi hi=>by simp[hi]) (λi hi=>by simp) ?_
    exact Ae 5 (Bo (.int .i64 4) (.int .i64 4) (Ae 15 (kM 5 55 2 (1+1) (λxi=>if xi<1 then (λ_=> .lit (.agg #[.int .i64 2,.int .i64 0])) xi else (λ_=> .lit (.agg #[.int .i64 3,.int .i64 0])) (xi-1)) (λxi=>Iv (([(2,0),(3,0)]:List (Int×Int)).getD xi (0,0))) (λx9 hx9=>match x9,hx9 with|0,_=>rfl|1,_=>rfl|_+2,h9=>absurd h9 ω) (Vy [3,4,10] [(0,0),(1,1),(5,2)] 3 0 hA0 [(55,2,1,(λ_=> .lit (.agg #[.int .i64 2,.int .i64 0]))),(55,2,1,(λ_=> .lit (.agg #[.int .i64 3,.int .i64 0]))),(55,2,1+1,(λxi=>Iv (([(2,0),(3,0)]:List (Int×Int)).getD xi (0,0))))] ⟨(Df λ_ _=>rfl),(Df λ_ _=>rfl),(Df λ_ _=>rfl),trivial⟩ (tail1 ([(2,0),(3,0)]:List (Int×Int)) (by unfold wU;rw[if_neg hx301d,if_pos hx305d,if_pos hx306d];rfl) δ δ)))))
   ·
    exact Ae 5 (Bo (.int .i64 4) (.int .i64 4) (Ae 15 (kM 3 55 2 1 (λ_=> .lit (.agg #[.int .i64 2,.int .i64 0])) (λxi=>Iv (([(2,0)]:List (Int×Int)).getD xi (0,0))) (λx9 hx9=>match x9,hx9 with|0,_=>rfl|_+1,h9=>absurd h9 ω) (Vy [3,4,10] [(0,0),(1,1),(3,2)] 3 0 hA0 [(55,2,1,(λ_=> .lit (.agg #[.int .i64 2,.int .i64 0]))),(55,2,1,(λxi=>Iv (([(2,0)]:List (Int×Int)).getD xi (0,0))))] ⟨(Df λ_ _=>rfl),(Df λ_ _=>rfl),trivial⟩ (tail1 ([(2,0)]:List (Int×Int)) (by unfold wU;rw[if_neg hx301d,if_pos hx305d,if_neg hx306d];rfl) δ δ)))))
  ·
   refine Ae 5 (Bo (.int .i64 3) (.int .i64 3) (Ae 17 (Bo (.bool (decide (x.til<st+(Fo p.acts p.acts.length)))) (.bool (decide (x.til<st+(Fo p.acts p.acts.length)))) (Ae 9 (Fy 60 (x.til<st+(Fo p.acts p.acts.length)) (λhx307 hx307d=>?_) (λhx307 hx307d=>?_))))))
   ·
    refine Ae 5 (Oh 2 55 2 1 (λ_=> .lit (.agg #[.int .i64 3,.int .i64 0])) ?_)
    refine rC 16 55 55 2 1 2 3 (λ_=> .lit (.agg #[.int .i64 3,.int .i64 0])) (λ_=> .lit (.agg #[.int .i64 3,.int .i64 0])) (λi hi=>rfl) ?_
    exact Ae 5 (Bo (.int .i64 4) (.int .i64 4) (Ae 15 (kM 3 55 2 1 (λ_=> .lit (.agg #[.int .i64 3,.int .i64 0])) (λxi=>Iv (([(3,0)]:List (Int×Int)).getD xi (0,0))) (λx9 hx9=>match x9,hx9 with|0,_=>rfl|_+1,h9=>absurd h9 ω) (Vy [3,4,10] [(0,0),(1,1),(3,2)] 3 0 hA0 [(55,2,1,(λ_=> .lit (.agg #[.int .i64 3,.int .i64 0]))),(55,2,1,(λxi=>Iv (([(3,0)]:List (Int×Int)).getD xi (0,0))))] ⟨(Df λ_ _=>rfl),(Df λ_ _=>rfl),trivial⟩ (tail1 ([(3,0)]:List (Int×Int)) (by unfold wU;rw[if_neg hx301d,if_neg hx305d,if_pos hx307d];rfl) δ δ)))))
   ·
    exact Ae 5 (Bo (.int .i64 4) (.int .i64 4) (Ae 15 (Vy [3,4,10] [(0,0),(1,1)] 2 0 hA0 [] trivial (tail0 (by unfold wU;rw[if_neg hx301d,if_neg hx305d,if_neg hx307d];rfl)))))
abbrev kH (y:Sh):Value:= .agg #[.int .i64 y.n,.int .i64 y.len,.int .i64 y.st,.int .i64 y.lx,.int .i64 y.ly,.int .i64 y.lz,.int .i64 y.hx,.int .i64 y.hy,.int .i64 y.hz,.int .i64 y.sp,.int .i64 y.di,.bool y.safe]
def tl0 (y:Sh):List UInt8:=Jk++([32]++Lib.itoa y.n)++[10]
def tl1 (y:Sh):List UInt8:=Oj++([32]++Lib.itoa y.len)++[10]
def tl2 (y:Sh):List UInt8:=([115,116,97,114,116,32]++Em y.st.toNat)++[10]
def tl3 (y:Sh):List UInt8:=Ok++([32]++Lib.itoa y.lx)++([32]++Lib.itoa y.ly)++([32]++Lib.itoa y.lz)++[10]
def tl4 (y:Sh):List UInt8:=Jm++([32]++Lib.itoa y.hx)++([32]++Lib.itoa y.hy)++([32]++Lib.itoa y.hz)++[10]
def tl5 (y:Sh):List UInt8:=Sz++([32]++Lib.itoa y.sp)++[10]
def tl6 (y:Sh):List UInt8:=Jl++([32]++Lib.itoa y.di)++[10]
def tl7 (y:Sh):List UInt8:=([115,97,102,101,32]++Kh y.safe)++[10]
def tx1 (y:Sh):List UInt8:=tl0 y++tl1 y
def tx2 (y:Sh):List UInt8:=tx1 y++tl2 y
def tx3 (y:Sh):List UInt8:=tx2 y++tl3 y
def tx4 (y:Sh):List UInt8:=tx3 y++tl4 y
def tx5 (y:Sh):List UInt8:=tx4 y++tl5 y
def tx6 (y:Sh):List UInt8:=tx5 y++tl6 y
def tx7 (y:Sh):List UInt8:=tx6 y++tl7 y
theorem Am6 (a b c:Int):∀i,i<3->∀j,j<1->((([.int a,.int b,.int c]:List AV).getD i .top).cell j).flat=true
 |0,_,0,_=>rfl
 |1,_,0,_=>rfl
 |2,_,0,_=>rfl
 |n+3,h,_,_=>absurd h ω
 |_,_,k+1,h=>absurd h ω
theorem vrE {x y:AV} (e:x=y) (E:As) (v:Value) (h:VR E x v):VR E y v:=e▸h
theorem Aa0 {y:Sh} (h:ShP y):Sm y.n/\Sm y.len/\Sm y.lx/\Sm y.ly/\Sm y.lz/\Sm y.hx/\Sm y.hy/\Sm y.hz/\Sm y.sp/\Sm y.di:=by
 have h1:=h.n
 have h2:=h.len
 have h3:=in3 h.lo
 have h4:=in3 h.hi
 have h5:=h.sp
 have h6:=h.di
 unfold Sm
 omega
theorem AiV {y:Sh} (h:ShP y):((tl0 y).length<=100/\(tl1 y).length<=100/\(tl2 y).length<=100/\(tl3 y).length<=100/\(tl4 y).length<=100/\(tl5 y).length<=100/\(tl6 y).length<=100/\(tl7 y).length<=100)/\(tx1 y).length<=200/\(tx2 y).length<=300/\(tx3 y).length<=400/\(tx4 y).length<=500/\(tx5 y).length<=600/\(tx6 y).length<=700/\(tx7 y).length<=800:=by
 obtain⟨a0,a1,a2,a3,a4,a5,a6,a7,a8,a9⟩:=Aa0 h
 have b0:=Hf a0
 have b1:=Hf a1
 have b2:=Hf a2
 have b3:=Hf a3
 have b4:=Hf a4
 have b5:=Hf a5
 have b6:=Hf a6
 have b7:=Hf a7
 have b8:=Hf a8
 have b9:=Hf a9
 have bc:=Sa y.st.toNat
 have bs:(Kh y.safe).length<=3:=by unfold Kh;cases y.safe<;>decide
 refine⟨?_,?_⟩
 refine⟨?_,?_,?_,?_,?_,?_,?_,?_⟩<;>simp only[tl0,tl1,tl2,tl3,tl4,tl5,tl6,tl7,List.length_append,List.length_cons,List.length_nil]<;>omega
 simp only[tx1,tx2,tx3,tx4,tx5,tx6,tx7,tl0,tl1,tl2,tl3,tl4,tl5,tl6,tl7,List.length_append,List.length_cons,List.length_nil]
 omega
theorem AmM (y:Sh):tx7 y=Aa1 y:=by
 simp[tx7,tx6,tx5,tx4,tx3,tx2,tx1,tl0,tl1,tl2,tl3,tl4,tl5,tl6,tl7,Aa1,iX,Fe,jn,List.append_assoc]
theorem lN (y:Sh) (h:ShP y):AF Tryz.prog 18 [.lit (kH y)] (.bool true):=by
 have h1:=h.n
 have h2:=h.len
 have h3:=h.st
 have h4:=h.le
 have h5:=h.sp
 have h6:=h.di
 refine Au func18 rfl λB D0 hA0=>?_
 exact Ae 11 (Ao (by have g9:=Lg ⟨y.lx,y.ly,y.lz⟩;rwa [h.lo] at g9) (Ae 4 (Ao (by have g9:=Lg ⟨y.hx,y.hy,y.hz⟩;rwa [h.hi] at g9) (Ae 10 (La 20 (decide (y.hx<y.lx)) false (decide_eq_false ω) (Ae 9 (La 29 (decide (y.hy<y.ly)) false (decide_eq_false ω) (Ae 9 (La 38 (decide (y.hz<y.lz)) false (decide_eq_false ω) (Ae 10 (Ao (It y.n 1 64 ω) (Ae 3 (Ao (It y.len 1 3600000 ω) (Ae 4 (Ao (It y.st 0 86400000 ω) (Ae 4 (Ao (It y.sp 1 10000 ω) (Ae 4 (Ao (It y.di 1 4194304 ω) (Ae 5 (Cm)))))))))))))))))))))
theorem Afk (y:Sh) (h:ShP y):Vf Hw Tryz.prog 8 [.lit (kH y)] (.lit (.tuple #[.string (BS (Aa1 y)),.int .i64 0])):=by
 obtain⟨a0,a1,a2,a3,a4,a5,a6,a7,a8,a9⟩:=Aa0 h
 have hL:=AiV h
 refine Kc Ew func8 rfl λB D0 hA0 hT=>?_
 have t7:Go Tryz.prog none B D0 (QF Tryz.prog B D0 Tryz.f8 (.lit (.tuple #[.string (BS (Aa1 y)),.int .i64 0]))) ⟨.code (fP Tryz.f8 5),[],⟨[(1,.ptr 0 0),(4,.lit (.string (BS (Em y.st.toNat)))),(6,.lit (.string (BS (Kh y.safe))))],[(0,.box 35 [.lit (.int .i64 y.n),.lit (.int .i64 y.len),.lit (.int .i64 y.st),.lit (.int .i64 y.lx),.lit (.int .i64 y.ly),.lit (.int .i64 y.lz),.lit (.int .i64 y.hx),.lit (.int .i64 y.hy),.lit (.int .i64 y.hz),.lit (.int .i64 y.sp),.lit (.int .i64 y.di),.lit (.bool y.safe)])],1,69⟩⟩:=by
   exact Ae 1 (Cl [(2,.osl 1 1 1,(.new 1 (.vec 3 1 1 (λ_=> .int y.n)))),(3,.lit (.string (BS (tl0 y))),(.read 1)),(6,.osl 2 1 1,(.new 2 (.vec 3 1 1 (λ_=> .int y.len)))),(7,.lit (.string (BS (tl1 y))),(.read 2)),(8,.lit (.string (BS (tx1 y))),.none),(10,.lit (.string (BS (([115,116,97,114,116,32])++(Em y.st.toNat)))),.none),(11,_,.none),(12,.lit (.string (BS (tx2 y))),.none),(22,.osl 3 1 3,(.new 3 (.vec 3 1 3 (λxi=>[.int y.lx,.int y.ly,.int y.lz].getD xi .top)))),(23,.lit (.string (BS (tl3 y))),(.read 3)),(24,.lit (.string (BS (tx3 y))),.none),(34,.osl 4 1 3,(.new 4 (.vec 3 1 3 (λxi=>[.int y.hx,.int y.hy,.int y.hz].getD xi .top)))),(35,.lit (.string (BS (tl4 y))),(.read 4)),(36,.lit (.string (BS (tx4 y))),.none),(39,.osl 5 1 1,(.new 5 (.vec 3 1 1 (λ_=> .int y.sp)))),(40,.lit (.string (BS (tl5 y))),(.read 5)),(41,.lit (.string (BS (tx5 y))),.none),(44,.osl 6 1 1,(.new 6 (.vec 3 1 1 (λ_=> .int y.di)))),(45,.lit (.string (BS (tl6 y))),(.read 6)),(46,.lit (.string (BS (tx6 y))),.none),(48,.lit (.string (BS (([115,97,102,101,32])++(Kh y.safe)))),.none),(49,_,.none),(50,.lit (.string (BS (tx7 y))),.none)] [2,3] ⟨Br (Db 95 1 #[(0,(.tmp 19))] κ underlying95 1 sizeOf3 _ zeroValue3 κ β β β 1 [.int y.n] κ (λ_=> .int y.n) κ),Br (Ku hT 19 #[(.const (.string ⟨#[97,105,114,99,114,97,102,116]⟩)),.tmp 20] #[9,95] κ (λ_ _=>by kernel_rfl) 1 (.vec 3 1 1 (λ_=> .int y.n)) κ (λ_ _ _ _ h=>by cases h;exact(Df λ_ _=>rfl)) [.lit (.string ⟨#[97,105,114,99,114,97,102,116]⟩),.osl 1 1 1] κ [.lit (.string ⟨#[97,105,114,99,114,97,102,116]⟩),.sl 1 1 (λ_=> .int y.n)] κ (.string (BS (tl0 y))) (@Vg Jk δ y.n a0)),Br (Db 95 1 #[(0,(.tmp 23))] κ underlying95 1 sizeOf3 _ zeroValue3 κ β β β 2 [.int y.len] κ (λ_=> .int y.len) κ),Br (Ku hT 19 #[(.const (.string ⟨#[108,101,110,103,116,104]⟩)),.tmp 24] #[9,95] κ (λ_ _=>by kernel_rfl) 2 (.vec 3 1 1 (λ_=> .int y.len)) κ (λ_ _ _ _ h=>by cases h;exact(Df λ_ _=>rfl)) [.lit (.string ⟨#[108,101,110,103,116,104]⟩),.osl 2 1 1] κ [.lit (.string ⟨#[108,101,110,103,116,104]⟩),.sl 1 1 (λ_=> .int y.len)] κ (.string (BS (tl1 y))) (@Vg Oj δ y.len a1)),Br (Dg 9 9 (.tmp 21) (.tmp 25) (tl0 y) (tl1 y) κ κ κ ω),Br (Dg 9 9 (.const (.string ⟨#[115,116,97,114,116,32]⟩)) (.tmp 27) ([115,116,97,114,116,32]) (Em y.st.toNat) κ κ κ (by rw[Sa];decide)),fQ hT (kQ ([115,116,97,114,116,32]++Em y.st.toNat) (by simp only[List.length_append,Sa];decide)),Br (Dg 9 9 (.tmp 26) (.tmp 29) (tx1 y) (tl2 y) κ κ κ ω),Br (Db 95 3 #[(0,(.tmp 33)),(1,(.tmp 36)),(2,(.tmp 39))] κ underlying95 1 sizeOf3 _ zeroValue3 κ β β β 3 [.int y.lx,.int y.ly,.int y.lz] κ (λxi=>[.int y.lx,.int y.ly,.int y.lz].getD xi .top) κ),Br (Ku hT 19 #[(.const (.string ⟨#[108,111,119]⟩)),.tmp 40] #[9,95] κ (λ_ _=>by kernel_rfl) 3 (.vec 3 1 3 (λxi=>[.int y.lx,.int y.ly,.int y.lz].getD xi .top)) κ (λ_ _ _ _ h=>by cases h;exact Am6 _ _ _) [.lit (.string ⟨#[108,111,119]⟩),.osl 3 1 3] κ [.lit (.string ⟨#[108,111,119]⟩),.sl 1 3 (λxi=>[.int y.lx,.int y.ly,.int y.lz].getD xi .top)] κ (.string (BS (tl3 y))) (@kR Ok δ y.lx y.ly y.lz a2 a3 a4)),Br (Dg 9 9 (.tmp 30) (.tmp 41) (tx2 y) (tl3 y) κ κ κ ω),Br (Db 95 3 #[(0,(.tmp 45)),(1,(.tmp 48)),(2,(.tmp 51))] κ underlying95 1 sizeOf3 _ zeroValue3 κ β β β 4 [.int y.hx,.int y.hy,.int y.hz] κ (λxi=>[.int y.hx,.int y.hy,.int y.hz].getD xi .top) κ),Br (Ku hT 19 #[(.const (.string ⟨#[104,105,103,104]⟩)),.tmp 52] #[9,95] κ (λ_ _=>by kernel_rfl) 4 (.vec 3 1 3 (λxi=>[.int y.hx,.int y.hy,.int y.hz].getD xi .top)) κ (λ_ _ _ _ h=>by cases h;exact Am6 _ _ _) [.lit (.string ⟨#[104,105,103,104]⟩),.osl 4 1 3] κ [.lit (.string ⟨#[104,105,103,104]⟩),.sl 1 3 (λxi=>[.int y.hx,.int y.hy,.int y.hz].getD xi .top)] κ (.string (BS (tl4 y))) (@kR Jm δ y.hx y.hy y.hz a5 a6 a7)),Br (Dg 9 9 (.tmp 42) (.tmp 53) (tx3 y) (tl4 y) κ κ κ ω),Br (Db 95 1 #[(0,(.tmp 56))] κ underlying95 1 sizeOf3 _ zeroValue3 κ β β β 5 [.int y.sp] κ (λ_=> .int y.sp) κ),Br (Ku hT 19 #[(.const (.string ⟨#[115,112,101,101,100]⟩)),.tmp 57] #[9,95] κ (λ_ _=>by kernel_rfl) 5 (.vec 3 1 1 (λ_=> .int y.sp)) κ (λ_ _ _ _ h=>by cases h;exact(Df λ_ _=>rfl)) [.lit (.string ⟨#[115,112,101,101,100]⟩),.osl 5 1 1] κ [.lit (.string ⟨#[115,112,101,101,100]⟩),.sl 1 1 (λ_=> .int y.sp)] κ (.string (BS (tl5 y))) (@Vg Sz δ y.sp a8)),Br (Dg 9 9 (.tmp 54) (.tmp 58) (tx4 y) (tl5 y) κ κ κ ω),Br (Db 95 1 #[(0,(.tmp 61))] κ underlying95 1 sizeOf3 _ zeroValue3 κ β β β 6 [.int y.di] κ (λ_=> .int y.di) κ),Br (Ku hT 19 #[(.const (.string ⟨#[100,105,115,116,97,110,99,101]⟩)),.tmp 62] #[9,95] κ (λ_ _=>by kernel_rfl) 6 (.vec 3 1 1 (λ_=> .int y.di)) κ (λ_ _ _ _ h=>by cases h;exact(Df λ_ _=>rfl)) [.lit (.string ⟨#[100,105,115,116,97,110,99,101]⟩),.osl 6 1 1] κ [.lit (.string ⟨#[100,105,115,116,97,110,99,101]⟩),.sl 1 1 (λ_=> .int y.di)] κ (.string (BS (tl6 y))) (@Vg Jl δ y.di a9)),Br (Dg 9 9 (.tmp 59) (.tmp 63) (tx5 y) (tl6 y) κ κ κ ω),Br (Dg 9 9 (.const (.string ⟨#[115,97,102,101,32]⟩)) (.tmp 65) ([115,97,102,101,32]) (Kh y.safe) κ κ κ (by unfold Kh;cases y.safe<;>decide)),fQ hT (kQ ([115,97,102,101,32]++Kh y.safe) (by unfold Kh;cases y.safe<;>decide)),Br (Dg 9 9 (.tmp 64) (.tmp 67) (tx6 y) (tl7 y) κ κ κ ω),trivial⟩ (Ae 2 (Eb (.lit (.tuple #[.string (BS (tx7 y)),.int .i64 0])) (congrArg (λl=>AV.lit (.tuple #[.string (BS l),.int .i64 0])) (AmM y)))))
 refine Ae 11 (Ao (lN y h) (Ae 10 (Gu hT (Wo y.st h.st) ?_)))
 refine Ae 19 (vsb 17 y.safe (λhx101=>?_) (λhx101=>?_))
 ·
  refine Ae 5 (wI 6 (.lit (.string ⟨#[121,101,115]⟩)) (.lit (.string (BS (Kh y.safe)))) (vrE (by rw[hx101];rfl)) ?_)
  exact Vy [1,4,6] [(0,0)] 1 0 hA0 [] trivial t7
 ·
  refine Ae 3 (wI 6 (.lit (.string ⟨#[110,111]⟩)) (.lit (.string (BS (Kh y.safe)))) (vrE (by rw[hx101];rfl)) ?_)
  exact Vy [1,4,6] [(0,0)] 1 0 hA0 [] trivial t7
theorem AlU (y:Sh):∀i,i<8->(iX y).getD i []=jn 32 ((Fe y).getD i [])/\(Fe y).getD i []∈Fe y/\(Fe y).getD i []≠[]
 |0,_=>⟨rfl,by simp[Fe],by simp[Fe]⟩
 |1,_=>⟨rfl,by simp[Fe],by simp[Fe]⟩
 |2,_=>⟨rfl,by simp[Fe],by simp[Fe]⟩
 |3,_=>⟨rfl,by simp[Fe],by simp[Fe]⟩
 |4,_=>⟨rfl,by simp[Fe],by simp[Fe]⟩
 |5,_=>⟨rfl,by simp[Fe],by simp[Fe]⟩
 |6,_=>⟨rfl,by simp[Fe],by simp[Fe]⟩
 |7,_=>⟨rfl,by simp[Fe],by simp[Fe]⟩
 |n+8,h=>absurd h ω
theorem Am7 (c:UInt8):∀{L:List (List UInt8)} {x:List UInt8},x∈L->x.length<=(jn c L).length
 |[z],x,h=>by rw[List.mem_singleton.1 h];exact Nat.le_refl _
 |z::w::l,x,h=>by
  rw[jn,List.length_append,List.length_cons]
  rcases List.mem_cons.1 h with rfl|h
  omega
  have:=Am7 c h
  omega
theorem AbI {y:Sh} (h:ShP y):(Aa1 y).length<=800:=by rw[<-AmM];exact(AiV h).2.2.2.2.2.2.2
theorem wW (y:Sh) (h:ShP y):Vf Hw Tryz.prog 21 [SA (Aa1 y),.lit (.string ⟨#[10]⟩)] (.slc 1 9 λk=>SA ((iX y).getD k [])):=kT 10 (iX y) (by simp[iX]) (AlT y) (Nat.le_trans (AbI h) δ)
theorem Hu (y:Sh) (h:ShP y) (i n:Nat) (hi:i<8) (hn:((Fe y).getD i []).length=n):Vf Hw Tryz.prog 21 [SA ((iX y).getD i []),.lit (.string ⟨#[32]⟩)] (.slc 1 n λk=>SA (((Fe y).getD i []).getD k [])):=by
 obtain⟨h1,h2,h3⟩:=AlU y i hi
 subst hn
 have hl:(iX y).getD i []∈iX y:=by rw[h1];exact List.mem_append_left _ (List.mem_map.2 ⟨_,h2,rfl⟩)
 have:=Nat.le_trans (Am7 10 hl) (AbI h)
 rw[h1] at this ⊢
 exact kT 32 _ h3 (λx hx=>(AbJ y _ h2 x hx).no δ) (Nat.le_trans this δ)
theorem eJ (t:Int) (hs:0<=t/\t<=86400000):Vf Hw Tryz.prog 12 [SA (Em t.toNat)] (.lit (.tuple #[.int .i64 t,.int .i64 0])):=by
 have:=kS (BS (Em t.toNat))
 unfold Kg at this
 rw[uX ω] at this
 have e:(t.toNat:Int)=t:=by omega
 simp only[e] at this
 exact this
theorem Zq {l m:List UInt8} (h:l≠m):((BS l).toList==(BS m).toList)=false:=by
 rw[ByteArray.toList_eq,ByteArray.toList_eq,beq_eq_false_iff_ne]
 exact h
theorem vJ (b:Bool):((BS (Kh b)).toList==(BS AbT).toList)=b:=by
 cases b
 exact Zq δ
 exact beq_self_eq_true _
theorem AlK {b:Bool} (h:b=false):((BS (Kh b)).toList==(BS AoR).toList)=true:=by
 subst h
 exact beq_self_eq_true _
theorem rM (w:List UInt8) (a b c:Int) (ha:Sm a) (hb:Sm b) (hc:Sm c):Vf Hw Tryz.prog 24 [.sl 1 3 λxi=>SA (([w,Lib.itoa a,Lib.itoa b,Lib.itoa c]:List (List UInt8)).getD (1+xi) [])] (.lit (.agg #[.int .i64 a,.int .i64 b,.int .i64 c])):=by
 refine Kc Ew func24 rfl λB D0 hA0 hT=>?_
 exact Ae 6 (Cl [(1,Co (.sl 1 3 (λxi=>SA (([w,Lib.itoa a,Lib.itoa b,Lib.itoa c]:List (List UInt8)).getD (1+xi) []))) 0,.none),(3,_,.none),(5,Co (.sl 1 3 (λxi=>SA (([w,Lib.itoa a,Lib.itoa b,Lib.itoa c]:List (List UInt8)).getD (1+xi) []))) 1,.none),(7,_,.none),(9,Co (.sl 1 3 (λxi=>SA (([w,Lib.itoa a,Lib.itoa b,Lib.itoa c]:List (List UInt8)).getD (1+xi) []))) 2,.none),(11,_,.none)] [2] ⟨Ht 0 3,fQ hT (Jh a ha),Ht 1 3,fQ hT (Jh b hb),Ht 2 3,fQ hT (Jh c hc),trivial⟩ (Ae 2 (Cm)))
theorem wV (y:Sh) (h:ShP y):Vf Hw Tryz.prog 9 [SA (Aa1 y)] (.lit (.tuple #[kH y,.int .i64 0])):=by
 obtain⟨a0,a1,a2,a3,a4,a5,a6,a7,a8,a9⟩:=Aa0 h
 refine Kc Ew func9 rfl λB D0 hA0 hT=>?_
 have t16:Go Tryz.prog none B D0 (QF Tryz.prog B D0 Tryz.f9 (.lit (.tuple #[kH y,.int .i64 0]))) ⟨.code (fP Tryz.f9 8),[],⟨[(2,.ptr 0 0),(3,.ptr 1 0),(5,.ptr 2 0),(9,.lit (.int .i64 y.st))],[(0,.box 35 [.lit (.int .i64 0),.lit (.int .i64 0),.lit (.int .i64 0),.lit (.int .i64 0),.lit (.int .i64 0),.lit (.int .i64 0),.lit (.int .i64 0),.lit (.int .i64 0),.lit (.int .i64 0),.lit (.int .i64 0),.lit (.int .i64 0),.lit (.bool false)]),(1,.box 41 [.lit (.int .i64 0)]),(2,.box 70 [.slc 1 2 (λk=>SA (((Fe y).getD 0 []).getD k [])),.slc 1 2 (λk=>SA (((Fe y).getD 1 []).getD k [])),.slc 1 2 (λk=>SA (((Fe y).getD 2 []).getD k [])),.slc 1 4 (λk=>SA (((Fe y).getD 3 []).getD k [])),.slc 1 4 (λk=>SA (((Fe y).getD 4 []).getD k [])),.slc 1 2 (λk=>SA (((Fe y).getD 5 []).getD k [])),.slc 1 2 (λk=>SA (((Fe y).getD 6 []).getD k [])),.slc 1 2 (λk=>SA (((Fe y).getD 7 []).getD k []))])],3,123⟩⟩:=by
   exact Ae 1 (Cl [(2,Co (.slc 1 2 (λk=>SA (((Fe y).getD 0 []).getD k []))) 1,.none),(4,_,.none),(7,Co (.slc 1 2 (λk=>SA (((Fe y).getD 1 []).getD k []))) 1,.none),(9,_,.none),(13,.sl 1 (4-1) (λxi=>(λk=>SA (((Fe y).getD 3 []).getD k [])) (1+xi)),.none),(14,_,.none),(17,.sl 1 (4-1) (λxi=>(λk=>SA (((Fe y).getD 4 []).getD k [])) (1+xi)),.none),(18,_,.none),(21,Co (.slc 1 2 (λk=>SA (((Fe y).getD 5 []).getD k []))) 1,.none),(23,_,.none),(26,Co (.slc 1 2 (λk=>SA (((Fe y).getD 6 []).getD k []))) 1,.none),(28,_,.none),(31,Co (.slc 1 2 (λk=>SA (((Fe y).getD 7 []).getD k []))) 1,.none),(33,.bool y.safe,.none)] [2,3] ⟨Ht 1 2,fQ hT (Jh y.n a0),Ht 1 2,fQ hT (Jh y.len a1),Br (Zf 28 (.tmp 96) (some (.const (.int .i64 1))) none κ underlying28 1 4 sizeOf9 (λk=>SA (((Fe y).getD 3 []).getD k [])) κ 1 4 (.inr ⟨(.const (.int .i64 1)),1,rfl,κ,ω⟩) (.inl ⟨rfl,rfl⟩) ω ω),fQ hT (rM Ok y.lx y.ly y.lz a2 a3 a4),Br (Zf 28 (.tmp 100) (some (.const (.int .i64 1))) none κ underlying28 1 4 sizeOf9 (λk=>SA (((Fe y).getD 4 []).getD k [])) κ 1 4 (.inr ⟨(.const (.int .i64 1)),1,rfl,κ,ω⟩) (.inl ⟨rfl,rfl⟩) ω ω),fQ hT (rM Jm y.hx y.hy y.hz a5 a6 a7),Ht 1 2,fQ hT (Jh y.sp a8),Ht 1 2,fQ hT (Jh y.di a9),Ht 1 2,Bk (.bool ((BS (Kh y.safe)).toList==(BS AbT).toList)) (congrArg Value.bool (vJ y.safe)),trivial⟩ (Ae 4 (Ao (lN y h) (Ao Ik (Ae 10 (Cm))))))
 refine Ae 9 (Aro 20 [.ptr 0 0,.ptr 1 0] zM ?_)
 refine Ae 5 (Gu hT (wW y h) ?_)
 refine Ae 10 (Fd 8 9 (Ae 1 (Bo (.bool ((BS ((iX y).getD 8 []):ByteArray).toList==(⟨#[]⟩:ByteArray).toList)) (.bool true) ?_ (congrArg Value.bool (beq_self_eq_true _)))))
 refine Ae 1 (Ao Ik (Ae 15 (Mg 8 (Ae 14 (Bo (.string ⟨#[97,105,114,99,114,97,102,116]⟩) (.string ⟨#[97,105,114,99,114,97,102,116]⟩) (Ae 9 (Fd 0 9 (Ae 1 (Gu hT (Hu y h 0 2 δ rfl) ?_)))))))))
 refine Ae 13 (Bo (.bool ((BS Jk).toList==(BS Ok).toList)) (.bool false) ?_ (congrArg Value.bool (Zq δ)))
 refine Ae 2 (Bo (.bool ((BS Jk).toList==(BS Jm).toList)) (.bool false) ?_ (congrArg Value.bool (Zq δ)))
 refine Ae 17 (Fd 0 2 (Ae 2 (Bo (.bool ((BS (((Fe y).getD 0 []).getD 0 [])).toList==(BS Jk).toList)) (.bool true) ?_ (congrArg Value.bool (beq_self_eq_true _)))))
 refine Ae 1 (Ao Ik (Ae 4 (Bo (.int .i64 1) (.int .i64 1) (Ae 17 (Bo (.string ⟨#[108,101,110,103,116,104]⟩) (.string ⟨#[108,101,110,103,116,104]⟩) (Ae 9 (Fd 1 9 (Ae 1 (Gu hT (Hu y h 1 2 δ rfl) ?_)))))))))
 refine Ae 13 (Bo (.bool ((BS Oj).toList==(BS Ok).toList)) (.bool false) ?_ (congrArg Value.bool (Zq δ)))
 refine Ae 2 (Bo (.bool ((BS Oj).toList==(BS Jm).toList)) (.bool false) ?_ (congrArg Value.bool (Zq δ)))
 refine Ae 17 (Fd 0 2 (Ae 2 (Bo (.bool ((BS (((Fe y).getD 1 []).getD 0 [])).toList==(BS Oj).toList)) (.bool true) ?_ (congrArg Value.bool (beq_self_eq_true _)))))
 refine Ae 1 (Ao Ik (Ae 4 (Bo (.int .i64 2) (.int .i64 2) (Ae 17 (Bo (.string ⟨#[115,116,97,114,116]⟩) (.string ⟨#[115,116,97,114,116]⟩) (Ae 9 (Fd 2 9 (Ae 1 (Gu hT (Hu y h 2 2 δ rfl) ?_)))))))))
 refine Ae 13 (Bo (.bool ((BS Zw).toList==(BS Ok).toList)) (.bool false) ?_ (congrArg Value.bool (Zq δ)))
 refine Ae 2 (Bo (.bool ((BS Zw).toList==(BS Jm).toList)) (.bool false) ?_ (congrArg Value.bool (Zq δ)))
 refine Ae 17 (Fd 0 2 (Ae 2 (Bo (.bool ((BS (((Fe y).getD 2 []).getD 0 [])).toList==(BS Zw).toList)) (.bool true) ?_ (congrArg Value.bool (beq_self_eq_true _)))))
 refine Ae 1 (Ao Ik (Ae 4 (Bo (.int .i64 3) (.int .i64 3) (Ae 17 (Bo (.string ⟨#[108,111,119]⟩) (.string ⟨#[108,111,119]⟩) (Ae 9 (Fd 3 9 (Ae 1 (Gu hT (Hu y h 3 4 δ rfl) ?_)))))))))
 refine Ae 13 (Bo (.bool ((BS Ok).toList==(BS Ok).toList)) (.bool true) ?_ (congrArg Value.bool (beq_self_eq_true _)))
 refine Ae 22 (Fd 0 4 (Ae 2 (Bo (.bool ((BS (((Fe y).getD 3 []).getD 0 [])).toList==(BS Ok).toList)) (.bool true) ?_ (congrArg Value.bool (beq_self_eq_true _)))))
 refine Ae 1 (Ao Ik (Ae 4 (Bo (.int .i64 4) (.int .i64 4) (Ae 17 (Bo (.string ⟨#[104,105,103,104]⟩) (.string ⟨#[104,105,103,104]⟩) (Ae 9 (Fd 4 9 (Ae 1 (Gu hT (Hu y h 4 4 δ rfl) ?_)))))))))
 refine Ae 13 (Bo (.bool ((BS Jm).toList==(BS Ok).toList)) (.bool false) ?_ (congrArg Value.bool (Zq δ)))
 refine Ae 2 (Bo (.bool ((BS Jm).toList==(BS Jm).toList)) (.bool true) ?_ (congrArg Value.bool (beq_self_eq_true _)))
 refine Ae 19 (Fd 0 4 (Ae 2 (Bo (.bool ((BS (((Fe y).getD 4 []).getD 0 [])).toList==(BS Jm).toList)) (.bool true) ?_ (congrArg Value.bool (beq_self_eq_true _)))))
 refine Ae 1 (Ao Ik (Ae 4 (Bo (.int .i64 5) (.int .i64 5) (Ae 17 (Bo (.string ⟨#[115,112,101,101,100]⟩) (.string ⟨#[115,112,101,101,100]⟩) (Ae 9 (Fd 5 9 (Ae 1 (Gu hT (Hu y h 5 2 δ rfl) ?_)))))))))
 refine Ae 13 (Bo (.bool ((BS Sz).toList==(BS Ok).toList)) (.bool false) ?_ (congrArg Value.bool (Zq δ)))
 refine Ae 2 (Bo (.bool ((BS Sz).toList==(BS Jm).toList)) (.bool false) ?_ (congrArg Value.bool (Zq δ)))
 refine Ae 17 (Fd 0 2 (Ae 2 (Bo (.bool ((BS (((Fe y).getD 5 []).getD 0 [])).toList==(BS Sz).toList)) (.bool true) ?_ (congrArg Value.bool (beq_self_eq_true _)))))
 refine Ae 1 (Ao Ik (Ae 4 (Bo (.int .i64 6) (.int .i64 6) (Ae 17 (Bo (.string ⟨#[100,105,115,116,97,110,99,101]⟩) (.string ⟨#[100,105,115,116,97,110,99,101]⟩) (Ae 9 (Fd 6 9 (Ae 1 (Gu hT (Hu y h 6 2 δ rfl) ?_)))))))))
 refine Ae 13 (Bo (.bool ((BS Jl).toList==(BS Ok).toList)) (.bool false) ?_ (congrArg Value.bool (Zq δ)))
 refine Ae 2 (Bo (.bool ((BS Jl).toList==(BS Jm).toList)) (.bool false) ?_ (congrArg Value.bool (Zq δ)))
 refine Ae 17 (Fd 0 2 (Ae 2 (Bo (.bool ((BS (((Fe y).getD 6 []).getD 0 [])).toList==(BS Jl).toList)) (.bool true) ?_ (congrArg Value.bool (beq_self_eq_true _)))))
 refine Ae 1 (Ao Ik (Ae 4 (Bo (.int .i64 7) (.int .i64 7) (Ae 17 (Bo (.string ⟨#[115,97,102,101]⟩) (.string ⟨#[115,97,102,101]⟩) (Ae 9 (Fd 7 9 (Ae 1 (Gu hT (Hu y h 7 2 δ rfl) ?_)))))))))
 refine Ae 13 (Bo (.bool ((BS jP).toList==(BS Ok).toList)) (.bool false) ?_ (congrArg Value.bool (Zq δ)))
 refine Ae 2 (Bo (.bool ((BS jP).toList==(BS Jm).toList)) (.bool false) ?_ (congrArg Value.bool (Zq δ)))
 refine Ae 17 (Fd 0 2 (Ae 2 (Bo (.bool ((BS (((Fe y).getD 7 []).getD 0 [])).toList==(BS jP).toList)) (.bool true) ?_ (congrArg Value.bool (beq_self_eq_true _)))))
 refine Ae 1 (Ao Ik (Ae 4 (Bo (.int .i64 8) (.int .i64 8) (Ae 19 (Fd 1 2 (Ae 1 (Gu hT (eJ y.st h.st) ?_)))))))
 refine Ae 14 (Fd 1 2 (Ae 1 (Bo (.bool ((BS (Kh y.safe)).toList==(BS AbT).toList)) (.bool y.safe) ?_ (congrArg Value.bool (vJ y.safe)))))
 refine Ae 1 (vsb 75 y.safe (λhx101=>?_) (λhx101=>?_))
 ·
  exact Ae 7 (Ao Ik (Ae 2 (Vy [2,3,5,9] [(0,0),(1,1),(2,2)] 3 0 hA0 [] trivial t16)))
 ·
  refine Ae 2 (Fd 1 2 (Ae 1 (Bo (.bool ((BS (Kh y.safe)).toList==(BS AoR).toList)) (.bool true) ?_ (congrArg Value.bool (AlK hx101)))))
  exact Ae 2 (Ao Ik (Ae 2 (Vy [2,3,5,9] [(0,0),(1,1),(2,2)] 3 0 hA0 [] trivial t16)))
theorem Mp {l:List (Int×Int)} {f:Nat->Bool} {e:Int×Int}:∀{n:Nat},e∈Qn l f n↔e∈l\/∃i,i<n/\f i=true/\e=(4,(i:Int))
 |0=>⟨.inl,λh=>h.elim id λ⟨i,hi,_⟩=>absurd hi (Nat.not_lt_zero i)⟩
 |n+1=>by
  unfold Qn
  constructor
  split
  rename_i hf
  intro h
  rcases List.mem_append.1 h with h|h
  rcases Mp.1 h with h|⟨i,hi,h1,h2⟩
  exact .inl h
  exact .inr ⟨i,ω,h1,h2⟩
  exact .inr ⟨n,ω,hf,by simpa using h⟩
  intro h
  rcases Mp.1 h with h|⟨i,hi,h1,h2⟩
  exact .inl h
  exact .inr ⟨i,ω,h1,h2⟩
  intro h
  split
  rename_i hf
  rcases h with h|⟨i,hi,h1,h2⟩
  exact List.mem_append_left _ (Mp.2 (.inl h))
  by_cases hin:i<n
  exact List.mem_append_left _ (Mp.2 (.inr ⟨i,hin,h1,h2⟩))
  obtain rfl:i=n:=by omega
  exact List.mem_append_right _ (by simp[h2])
  rename_i hf
  rcases h with h|⟨i,hi,h1,h2⟩
  exact Mp.2 (.inl h)
  by_cases hin:i<n
  exact Mp.2 (.inr ⟨i,hin,h1,h2⟩)
  obtain rfl:i=n:=by omega
  exact absurd h1 hf
theorem Abv {x:Pm} {p:Pr} {st:Int} {e:Int×Int}:e∈wU x p st↔(x.craft<(p.names.length:Int)/\e=(1,0))\/(st<x.fr/\e=(2,0))\/(x.til<st+Fo p.acts p.acts.length/\e=(3,0)):=by
 unfold wU
 by_cases a:x.craft<(p.names.length:Int)<;>by_cases b:st<x.fr<;>by_cases c:x.til<st+Fo p.acts p.acts.length<;>simp[a,b,c]
theorem AkY {x y:Pm} {p:Pr} {st:Int} (ha:y.area=x.area) (h1:x.craft<=y.craft) (h2:y.fr<=x.fr) (h3:x.til<=y.til) {e:Int×Int} (h:e∈Ka y p st):e∈Ka x p st:=by
 unfold Ka at h ⊢
 have hb:Qm y p=Qm x p:=by funext i;unfold Qm lkI;rw[ha]
 rw[hb] at h
 rcases Mp.1 h with h|h
 refine Mp.2 (.inl (Abv.2 ?_))
 rcases Abv.1 h with⟨g,e1⟩|⟨g,e1⟩|⟨g,e1⟩
 exact .inl ⟨ω,e1⟩
 exact .inr (.inl ⟨ω,e1⟩)
 exact .inr (.inr ⟨ω,e1⟩)
 exact Mp.2 (.inr h)
def Wa (x:Pm) (a b c:Int):Pm:=⟨x.area,max 0 (x.fr-b),min 86400000 (x.til+c),min 64 (x.craft+a)⟩
theorem Aix {x:Pm} (h:qJ x=true):pmT x:=by
 unfold qJ at h
 rw[Bool.and_eq_true] at h
 exact of_decide_eq_true h.2
theorem Aq2 {x:Pm} {a b c:Int} (h:qJ x=true) (ha:0<=a) (hb:0<=b) (hc:0<=c):qJ (Wa x a b c)=true:=by
 have ht:=Aix h
 unfold qJ at h ⊢
 rw[Bool.and_eq_true] at h ⊢
 refine⟨h.1,decide_eq_true ?_⟩
 unfold pmT at ht ⊢
 unfold Wa
 simp only
 omega
theorem Ams {x:Pm} {p:Pr} {st a b c:Int} (h:qJ x=true) (ha:0<=a) (hb:0<=b) (hc:0<=c) {e:Int×Int} (he:e∈Ka (Wa x a b c) p st):e∈Ka x p st:=by
 have ht:=Aix h
 unfold pmT at ht
 refine AkY (x:=x) (y:=Wa x a b c) rfl ?_ ?_ ?_ he<;>unfold Wa<;>simp only<;>omega
def mbL (L:List (Int×Int)) (x y:Int):Nat->Bool
 |0=>false
 |n+1=>mbL L x y n||decide ((L.getD n (0,0)).1=x/\(L.getD n (0,0)).2=y)
theorem AhS {L:List (Int×Int)} {x y:Int} {i:Nat} (h:L.getD i (0,0)=(x,y)):∀{n:Nat},i<n->mbL L x y n=true
 |n+1,hi=>by
  rw[mbL,Bool.or_eq_true]
  by_cases hin:i<n
  exact .inl (AhS h hin)
  obtain rfl:i=n:=by omega
  exact .inr (decide_eq_true (by rw[h];exact⟨rfl,rfl⟩))
theorem Aoa {L K:List (Int×Int)} (h:∀e∈K,e∈L) {i:Nat} (hi:i<K.length):mbL L (K.getD i (0,0)).1 (K.getD i (0,0)).2 L.length=true:=by
 have hm:=h _ (List.getElem_mem hi)
 obtain⟨j,hj,e⟩:=List.getElem_of_mem hm
 refine AhS (i:=j) ?_ hj
 rw[Γ,List.getElem?_eq_getElem hj,e,Γ,List.getElem?_eq_getElem hi]
theorem eS (x:Pm) (p:Pr) (st:Int) (hx:yC x) (hp:fF p) (hno:¬(qJ x=true/\Ef p=true/\(0<=st/\st<=86400000))):AF Tryz.prog 13 [Uo x,Ie p,.int st] (.lit (.tuple #[.slice none 0 0,.int .i64 2])):=by
 refine Au func13 rfl λB D0 hA0=>?_
 refine Ae 14 (Ao (On x hx) (Ae 4 (wH 19 (qJ x) (λhx1=>?_) (λhx1=>?_))))
 ·
  refine Ae 4 (Ao (Hb p hp) (Ae 4 (wH 19 (Ef p) (λhx2=>?_) (λhx2=>?_))))
  ·
   refine Ae 3 (Ao (Mx st 0 86400000) (Ae 4 (wJ 19 ((0:Int)<=st/\st<=86400000) (λhx3 hx3d=>?_) (λhx3 hx3d=>?_))))
   ·
    refine Ae 1 ?_
    exact absurd ⟨hx1,hx2,hx3d⟩ hno
   ·
    exact Ae 10 (Cm)
  ·
   exact Ae 13 (Cm)
 ·
  exact Ae 13 (Cm)
theorem cR (x:Pm) (p:Pr) (st:Int) (hx:yC x) (hp:fF p) (hv:qJ x=true) (h:Ef p=true) (hs:0<=st/\st<=86400000) (hk:p.acts.length=0):AF Tryz.prog 13 [Uo x,Ie p,.int st] (.lit (.tuple #[.slice none 0 0,.int .i64 9])):=by
 refine Au func13 rfl λB D0 hA0=>?_
 exact Ae 14 (Ao (by have h9:=On x hx;rwa [hv] at h9) (Ae 8 (Ao (by have h9:=Hb p hp;rwa [h] at h9) (Ae 7 (Ao (It st 0 86400000 ω) (Ae 11 (La 33 (decide ((p.acts.length:Int)=0)) true (decide_eq_true ω) (Ae 13 (Cm)))))))))
theorem Kj {y:Sh} (h:ShP y):(1<=y.n/\y.n<=64)/\(1<=y.len/\y.len<=3600000)/\(0<=y.st/\y.st<=86400000)/\(y.lx<=y.hx/\y.ly<=y.hy/\y.lz<=y.hz)/\(1<=y.sp/\y.sp<=10000)/\1<=y.di/\y.di<=4194304:=⟨h.n,h.len,h.st,h.le,h.sp,h.di⟩
theorem AlR {y:Sh} {p:Prop} [Decidable p] (h:p↔ShP y):decide p=bP (ShP y):=by
 by_cases hp:p
 rw[decide_eq_true hp,Yg (h.1 hp)]
 rw[decide_eq_false hp,Ck λg=>hp (h.2 g)]
theorem eW (y:Sh):AF Tryz.prog 7 [.lit (kH y)] (.bool (bP (ShP y))):=by
 refine Au func7 rfl λB D0 hA0=>?_
 refine Ae 12 (Fy 6 ((1:Int)<=y.n) (λhx1 hx1d=>?_) (λhx1 hx1d=>?_))
 ·
  refine Ae 5 (Fy 11 (y.n<=64) (λhx2 hx2d=>?_) (λhx2 hx2d=>?_))
  ·
   refine Ae 5 (Fy 16 ((1:Int)<=y.len) (λhx3 hx3d=>?_) (λhx3 hx3d=>?_))
   ·
    refine Ae 5 (Fy 21 (y.len<=3600000) (λhx4 hx4d=>?_) (λhx4 hx4d=>?_))
    ·
     refine Ae 2 (Ao (eN y.st) (Ae 2 (Fy 26 ((0:Int)<=y.st/\y.st<=86400000) (λhx5 hx5d=>?_) (λhx5 hx5d=>?_))))
     ·
      refine Ae 2 (Ao (Lg ⟨y.lx,y.ly,y.lz⟩) (Ae 2 (vsb 31 (Ed 1048576 [y.lx,y.ly,y.lz]) (λhx6=>?_) (λhx6=>?_))))
      ·
       refine Ae 2 (Ao (Lg ⟨y.hx,y.hy,y.hz⟩) (Ae 2 (vsb 36 (Ed 1048576 [y.hx,y.hy,y.hz]) (λhx7=>?_) (λhx7=>?_))))
       ·
        refine Ae 9 (Fy 45 (y.lx<=y.hx) (λhx8 hx8d=>?_) (λhx8 hx8d=>?_))
        ·
         refine Ae 9 (Fy 54 (y.ly<=y.hy) (λhx9 hx9d=>?_) (λhx9 hx9d=>?_))
         ·
          refine Ae 9 (Fy 63 (y.lz<=y.hz) (λhx10 hx10d=>?_) (λhx10 hx10d=>?_))
          ·
           refine Ae 5 (Fy 68 ((1:Int)<=y.sp) (λhx11 hx11d=>?_) (λhx11 hx11d=>?_))
           ·
            refine Ae 5 (Fy 73 (y.sp<=10000) (λhx12 hx12d=>?_) (λhx12 hx12d=>?_))
            ·
             refine Ae 5 (Fy 78 ((1:Int)<=y.di) (λhx13 hx13d=>?_) (λhx13 hx13d=>?_))
             ·
              exact Ae 8 (Eb (.bool (decide (y.di<=4194304))) (congrArg AV.bool (AlR ⟨λg9=>⟨ω,ω,ω,hx6,hx7,ω,ω,ω⟩,λg9=>g9.di.2⟩)))
             ·
              exact Ae 8 (Eb (.bool false) (congrArg AV.bool (Ck (λg9=>by have g8:=Kj g9;omega)).symm))
            ·
             exact Ae 13 (Eb (.bool false) (congrArg AV.bool (Ck (λg9=>by have g8:=Kj g9;omega)).symm))
           ·
            exact Ae 18 (Eb (.bool false) (congrArg AV.bool (Ck (λg9=>by have g8:=Kj g9;omega)).symm))
          ·
           exact Ae 23 (Eb (.bool false) (congrArg AV.bool (Ck (λg9=>by have g8:=Kj g9;omega)).symm))
         ·
          exact Ae 32 (Eb (.bool false) (congrArg AV.bool (Ck (λg9=>by have g8:=Kj g9;omega)).symm))
        ·
         exact Ae 41 (Eb (.bool false) (congrArg AV.bool (Ck (λg9=>by have g8:=Kj g9;omega)).symm))
       ·
        exact Ae 50 (Eb (.bool false) (congrArg AV.bool (Ck (λg9=>by have g8:=g9.hi;rw[hx7] at g8;cases g8)).symm))
      ·
       exact Ae 55 (Eb (.bool false) (congrArg AV.bool (Ck (λg9=>by have g8:=g9.lo;rw[hx6] at g8;cases g8)).symm))
     ·
      exact Ae 60 (Eb (.bool false) (congrArg AV.bool (Ck (λg9=>by have g8:=Kj g9;omega)).symm))
    ·
     exact Ae 65 (Eb (.bool false) (congrArg AV.bool (Ck (λg9=>by have g8:=Kj g9;omega)).symm))
   ·
    exact Ae 70 (Eb (.bool false) (congrArg AV.bool (Ck (λg9=>by have g8:=Kj g9;omega)).symm))
  ·
   exact Ae 75 (Eb (.bool false) (congrArg AV.bool (Ck (λg9=>by have g8:=Kj g9;omega)).symm))
 ·
  exact Ae 80 (Eb (.bool false) (congrArg AV.bool (Ck (λg9=>by have g8:=Kj g9;omega)).symm))
def fd1 (n:Nat):Int:=if n=0 then 0 else 9
theorem ApF {n:Nat} (h:n=0):(0:Int)=fd1 n:=by subst h;rfl
theorem ApG {n:Nat} (h:¬n=0):(9:Int)=fd1 n:=(if_neg h).symm
theorem AnD (n:Nat):(decide (fd1 n=0)==decide ((n:Int)=0))=true:=by
 unfold fd1
 split
 rename_i h;subst h;rfl
 rename_i h
 rw[decide_eq_false δ,decide_eq_false ω]
 rfl
theorem Afv (x:Pm) (p:Pr) (st:Int) (hx:yC x) (hp:fF p) (hE:Hd) (hv:qJ x=true) (h:Ef p=true) (hs:0<=st/\st<=86400000) (hk:0<p.acts.length):AF Tryz.prog 14 [.sl 7 1 λ_=>Uo x,Ie p,.int st] (.lit (.tuple #[.int .i64 0,.int .i64 (fd1 (Ka x p st).length)])):=by
 refine Au func14 rfl λB D0 hA0=>?_
 refine Ae 15 (Ao (by have h9:=Hb p hp;rwa [h] at h9) (Ae 4 (Ao (It st 0 86400000 ω) (Ae 16 (Mg 1 (Ae 13 (Fd 0 1 (Ae 8 (Ao (by have h9:=On x hx;rwa [hv] at h9) (Ae 8 (Bo (.int .i64 1) (.int .i64 1) (Ae 24 (Mg 1 (Ae 14 (Fd 0 1 (Ae 11 (Ao (Wt x p st hx hp hE hv h hs hk) (Ae 24 (Fy 56 (((Ka x p st).length:Int)=0) (λhx1 hx1d=>?_) (λhx1 hx1d=>?_))))))))))))))))))))
 ·
  exact Ae 14 (Eb (.lit (.tuple #[.int .i64 0,.int .i64 0])) (congrArg (λe=>(.lit (.tuple #[.int .i64 0,.int .i64 e]):AV)) (ApF ω)))
 ·
  exact Ae 5 (Bo (.int .i64 1) (.int .i64 1) (Ae 22 (Eb (.lit (.tuple #[.int .i64 0,.int .i64 9])) (congrArg (λe=>(.lit (.tuple #[.int .i64 0,.int .i64 e]):AV)) (ApG ω)))))
theorem AhI (x:Pm) (p:Pr) (st:Int):(Ka x p st).length<=3+p.names.length:=by
 have h1:=Abw (wU x p st) (Qm x p) p.names.length
 have h2:(wU x p st).length<=3:=by unfold wU;split<;>split<;>split<;>simp
 unfold Ka
 omega
theorem AjD:Vf Hw Tryz.prog 11 [.int 3723004] (.lit (.tuple #[.string ⟨#[48,49,58,48,50,58,48,51,46,48,48,52]⟩,.int .i64 0])):=by
 have h:=Wp 3723004 δ
 rw[AcM] at h
 exact h
theorem AjE:Vf Hw Tryz.prog 11 [.int 86400000] (.lit (.tuple #[.string ⟨#[50,52,58,48,48,58,48,48,46,48,48,48]⟩,.int .i64 0])):=by
 have h:=Wp 86400000 δ
 rw[AcN] at h
 exact h
theorem Ait:Nz ⟨#[50,52,58,48,48,58,48,48,46,48,48,49]⟩=none:=by decide+kernel
theorem rL {s:ByteArray} (h:Nz s=none):Vf Hw Tryz.prog 12 [.lit (.string s)] jU:=by
 have h2:=kS s
 rwa [<-Zj h] at h2
theorem AjK {t:Int} (h:0<=t/\t<=86400000):AF Tryz.prog 10 [.int t] (.bool true):=by
 have h2:=eN t
 rwa [decide_eq_true h] at h2
theorem AjJ {t:Int} (h:¬(0<=t/\t<=86400000)):AF Tryz.prog 10 [.int t] (.bool false):=by
 have h2:=eN t
 rwa [decide_eq_false h] at h2
theorem Er:Vf Hw Tryz.prog 6 [] (.bool true):=by
 refine Kc Ew func6 rfl λB D0 hA0 hT=>?_
 refine Ae 7 (Ao nW (Ae 13 (Ao AnS (Ae 11 (Ao AnT (Ae 11 (Ao AnU (Ae 18 (Ao AnV (Ae 32 (Oh 2 55 2 1 (λ_=> .lit (.agg #[.int .i64 2,.int .i64 0])) ?_)))))))))))
 refine Ci (.bool true) (.read 2) (Ri 16 #[.tmp 63,.tmp 65] #[50,50] κ (λ_ _=>by kernel_rfl) 2 (.vec 55 2 1 (λ_=> .lit (.agg #[.int .i64 2,.int .i64 0]))) κ (λ_ _ _ _ h=>by cases h;exact(Df λ_ _=>rfl)) [.sl 2 1 (Jc 2),.osl 2 2 1] κ [.sl 2 1 (Jc 2),.sl 2 1 (λ_=> .lit (.agg #[.int .i64 2,.int .i64 0]))] κ (.bool true) AiE) (Ae 5 (Oh 3 55 2 1 (λ_=> .lit (.agg #[.int .i64 3,.int .i64 0])) ?_))
 refine Ci (.bool true) (.read 3) (Ri 16 #[.tmp 70,.tmp 72] #[50,50] κ (λ_ _=>by kernel_rfl) 3 (.vec 55 2 1 (λ_=> .lit (.agg #[.int .i64 3,.int .i64 0]))) κ (λ_ _ _ _ h=>by cases h;exact(Df λ_ _=>rfl)) [.sl 2 1 (Jc 3),.osl 3 2 1] κ [.sl 2 1 (Jc 3),.sl 2 1 (λ_=> .lit (.agg #[.int .i64 3,.int .i64 0]))] κ (.bool true) AiF) (Ae 5 (Oh 4 55 2 1 (λ_=> .lit (.agg #[.int .i64 4,.int .i64 0])) ?_))
 refine Ci (.bool true) (.read 4) (Ri 16 #[.tmp 77,.tmp 79] #[50,50] κ (λ_ _=>by kernel_rfl) 4 (.vec 55 2 1 (λ_=> .lit (.agg #[.int .i64 4,.int .i64 0]))) κ (λ_ _ _ _ h=>by cases h;exact(Df λ_ _=>rfl)) [.sl 2 1 (Jc 4),.osl 4 2 1] κ [.sl 2 1 (Jc 4),.sl 2 1 (λ_=> .lit (.agg #[.int .i64 4,.int .i64 0]))] κ (.bool true) AiG) (Ae 9 (Gu hT AjD ?_))
 refine Ae 9 (Gu hT AjE ?_)
 refine Ae 9 (Gu hT (rL Ait) ?_)
 refine Ae 16 (Bo (.bool ((⟨#[48,49,58,48,50,58,48,51,46,48,48,52]⟩:ByteArray).toList==(⟨#[48,49,58,48,50,58,48,51,46,48,48,52]⟩:ByteArray).toList)) (.bool true) ?_ (congrArg Value.bool (beq_self_eq_true _)))
 refine Ae 3 (Bo (.bool ((⟨#[50,52,58,48,48,58,48,48,46,48,48,48]⟩:ByteArray).toList==(⟨#[50,52,58,48,48,58,48,48,46,48,48,48]⟩:ByteArray).toList)) (.bool true) ?_ (congrArg Value.bool (beq_self_eq_true _)))
 exact Ae 9 (Cm)
def Fn (b:Bool) (n:Nat):Int:=if b=true then -(n:Int) else n
def sgZ (b:Bool) (n:Nat):Int:=if n=0 then 0 else if b=true then -1 else 1
theorem AiI (b:Bool) (n:Nat):sgZ b n=(Fn b n).sign:=by
 unfold sgZ Fn
 by_cases h:n=0
 subst h;cases b<;>rfl
 rw[if_neg h]
 cases b with
 |true=>rw[if_pos rfl,if_pos rfl];exact(Int.sign_eq_neg_one_of_neg ω).symm
 |false=>rw[if_neg δ,if_neg δ];exact(Int.sign_eq_one_of_pos ω).symm
theorem Ajd (b:Bool) (n:Nat):Fn (!b) n= -Fn b n:=by cases b<;>simp[Fn]
theorem Ajc (b:Bool) (n:Nat) (c:Bool) (m:Nat):Fn (Nr b n c m) (Ma b n c m)=Fn b n+Fn c m:=by
 unfold Nr Ma Fn
 by_cases h:b=c
 subst h
 rw[if_pos rfl,if_pos rfl]
 cases b<;>simp<;>omega
 rw[if_neg h,if_neg h]
 by_cases hm:m<=n
 rw[if_pos hm,if_pos hm]
 cases b<;>cases c<;>first|exact absurd rfl h|(simp;omega)
 rw[if_neg hm,if_neg hm]
 cases b<;>cases c<;>first|exact absurd rfl h|(simp;omega)
theorem eF (x:Int):Fn (decide (x<0)) x.natAbs=x:=by
 unfold Fn
 by_cases h:x<0
 rw[if_pos (decide_eq_true h)];omega
 rw[if_neg (by simpa using h)];omega
theorem nO (b c:Bool) (n m:Nat):Fn (!decide (b=c)) (n*m)=Fn b n*Fn c m:=by
 cases b<;>cases c<;>simp[Fn,Int.neg_mul,Int.mul_neg]
theorem AjR (b:Bool) (n:Nat) (h:decide (((Aj n).length:Int)=0)=true):AF Tryz.prog 191 [Dj b n] (.int 0):=by
 refine Au func191 rfl λB D0 hA0=>?_
 exact Ae 17 (La 3 (decide (((Aj n).length:Int)=0)) true h (Ae 9 (Cm)))
theorem AjS (n:Nat) (h:decide (((Aj n).length:Int)=0)=false):AF Tryz.prog 191 [Dj true n] (.int (-1)):=by
 refine Au func191 rfl λB D0 hA0=>?_
 exact Ae 17 (La 3 (decide (((Aj n).length:Int)=0)) false h (Ae 17 (Cm)))
theorem AjT (n:Nat) (h:decide (((Aj n).length:Int)=0)=false):AF Tryz.prog 191 [Dj false n] (.int 1):=by
 refine Au func191 rfl λB D0 hA0=>?_
 exact Ae 17 (La 3 (decide (((Aj n).length:Int)=0)) false h (Ae 18 (Cm)))
theorem AjU (b:Bool) (n:Nat):AF Tryz.prog 191 [Dj b n] (.int (sgZ b n)):=by
 unfold sgZ
 by_cases h:n=0
 rw[if_pos h]
 exact AjR b n (decide_eq_true (by rw[h,Ct];rfl))
 have hl:=Yx (Nat.pos_of_ne_zero h)
 rw[if_neg h]
 cases b with
 |true=>exact AjS n (decide_eq_false ω)
 |false=>exact AjT n (decide_eq_false ω)
theorem AfD (x y u v:Int) (hx:Cb x) (hy:Cb y) (hu:Cb u) (hv:Cb v) (hyp:0<y) (hvp:0<v):AF Tryz.prog 167 [Iq x y,Iq u v] (.lit (.tuple #[.int .i64 (sgZ (Nr (!decide (decide (x<0)=decide (v<0))) (x.natAbs*v.natAbs) (!(!decide (decide (u<0)=decide (y<0)))) (u.natAbs*y.natAbs)) (Ma (!decide (decide (x<0)=decide (v<0))) (x.natAbs*v.natAbs) (!(!decide (decide (u<0)=decide (y<0)))) (u.natAbs*y.natAbs))),.int .i64 0])):=by
 have d1:=hx.digits
 have d2:=hy.digits
 have d3:=hu.digits
 have d4:=hv.digits
 have p1:=Ey x.natAbs v.natAbs
 have p2:=Ey u.natAbs y.natAbs
 have p3:=Ey y.natAbs v.natAbs
 have p4:=Ey x.natAbs u.natAbs
 have p6:=Ic (!decide (decide (x<0)=decide (v<0))) (x.natAbs*v.natAbs) (!!decide (decide (u<0)=decide (y<0))) (u.natAbs*y.natAbs)
 refine Au func167 rfl λB D0 hA0=>?_
 exact Ae 13 (Ao (Ti x y u v θ θ θ θ θ θ) (Ae 10 (Ao (Om x y u v θ θ θ θ) (Ae 13 (Cl [(2,_,.none),(3,_,.none),(4,_,.none)] [4,5] ⟨Be (Vj (!decide (decide (u<0)=decide (y<0))) (u.natAbs*y.natAbs)),Be (Nh (!decide (decide (x<0)=decide (v<0))) (x.natAbs*v.natAbs) (!(!decide (decide (u<0)=decide (y<0)))) (u.natAbs*y.natAbs) ω ω),Be (AjU (Nr (!decide (decide (x<0)=decide (v<0))) (x.natAbs*v.natAbs) (!(!decide (decide (u<0)=decide (y<0)))) (u.natAbs*y.natAbs)) (Ma (!decide (decide (x<0)=decide (v<0))) (x.natAbs*v.natAbs) (!(!decide (decide (u<0)=decide (y<0)))) (u.natAbs*y.natAbs))),trivial⟩ (Ae 2 (Cm)))))))
theorem AfE (x y u v:Int) (hx:Cb x) (hy:Cb y) (hu:Cb u) (hv:Cb v) (hyp:0<y) (hvp:0<v):AF Tryz.prog 167 [Iq x y,Iq u v] (.lit (.tuple #[.int .i64 (x*v-u*y).sign,.int .i64 0])):=by
 have h:=AfD x y u v hx hy hu hv hyp hvp
 rw[AiI,Ajc,Ajd (!decide (decide (u<0)=decide (y<0))),nO,nO,eF,eF,eF,eF,<-Int.sub_eq_add_neg] at h
 exact h
theorem fU {b:Bool} {n m:Nat} (h:m∣n):Eu b n m=n/m:=by
 have e:n%m=0:=Nat.mod_eq_zero_of_dvd h
 unfold Eu
 rw[e,if_neg (by simp)]
theorem Ot {b:Bool} {n m:Nat} (h:m∣n) (hn:bitLen n<=65536):bitLen (Eu b n m)<=65536:=by
 rw[fU h]
 exact Nat.le_trans (Lk (Nat.div_le_self n m)) hn
theorem pU {n:Nat} (h:bitLen n<=65536):(Aj n).length<=1024:=(show Cb (n:Int) from h).digits
theorem Ano {n:Nat} (h:bitLen n<=65536):(be n).length<=8192:=(show Cb (n:Int) from h).bytes
theorem Pj (b:Bool) (n:Nat):(Fn b n).natAbs=n:=by cases b<;>simp[Fn]
theorem AhX {b:Bool} {n:Nat} (h:0<n):decide (Fn b n<0)=b:=by
 cases b
 exact decide_eq_false (by unfold Fn;rw[if_neg δ];omega)
 exact decide_eq_true (by unfold Fn;rw[if_pos rfl];omega)
theorem yI {b:Bool} {n:Nat} (h:0<n):Value.agg #[.bool b,.string (Cz n)]=Al (Fn b n):=by
 show _=Value.agg #[.bool (decide (Fn b n<0)),.string (Cz (Fn b n).natAbs)]
 rw[AhX h,Pj]
theorem fI (n:Nat):Value.agg #[.bool false,.string (Cz n)]=Al (Fn false n):=by
 show _=Value.agg #[.bool (decide (Fn false n<0)),.string (Cz (Fn false n).natAbs)]
 rw[Pj,show decide (Fn false n<0)=false from decide_eq_false (by unfold Fn;rw[if_neg δ];omega)]
theorem AmY (n:Nat) (h:decide ((65536:Int)<(bitLen n:Int))=false) (h2:decide ((0:Int)<((Aj n).length:Int))=true) (hl:(Aj n).length<=1024) (_:(be n).length<=8192):AF Tryz.prog 146 [Dj true n] (.lit (.tuple #[.agg #[.bool true,.string (Cz n)],.int .i64 0])):=by
 refine Au func146 rfl λB D0 hA0=>?_
 exact Ae 12 (Ao (Ni n ω) (Ae 3 (La 7 (decide ((65536:Int)<(bitLen n:Int))) false h (Ae 4 (Cl [(6,.bool true,.none),(10,_,.none)] [2,3] ⟨rG h2,Be (Kn n (Tp ω)),trivial⟩ (Ae 2 (Cm)))))))
theorem AmZ (n:Nat) (h:decide ((65536:Int)<(bitLen n:Int))=false) (h2:decide ((0:Int)<((Aj n).length:Int))=false) (hl:(Aj n).length<=1024) (_:(be n).length<=8192):AF Tryz.prog 146 [Dj true n] (.lit (.tuple #[.agg #[.bool false,.string (Cz n)],.int .i64 0])):=by
 refine Au func146 rfl λB D0 hA0=>?_
 exact Ae 12 (Ao (Ni n ω) (Ae 3 (La 7 (decide ((65536:Int)<(bitLen n:Int))) false h (Ae 4 (Cl [(6,.bool false,.none),(10,_,.none)] [2,3] ⟨rG h2,Be (Kn n (Tp ω)),trivial⟩ (Ae 2 (Cm)))))))
theorem Ana (n:Nat) (h:decide ((65536:Int)<(bitLen n:Int))=false) (hl:(Aj n).length<=1024) (_:(be n).length<=8192):AF Tryz.prog 146 [Dj false n] (.lit (.tuple #[.agg #[.bool false,.string (Cz n)],.int .i64 0])):=by
 refine Au func146 rfl λB D0 hA0=>?_
 exact Ae 12 (Ao (Ni n ω) (Ae 3 (La 7 (decide ((65536:Int)<(bitLen n:Int))) false h (Ae 4 (Cl [(10,_,.none)] [2,3] ⟨Be (Kn n (Tp ω)),trivial⟩ (Ae 2 (Cm)))))))
theorem lI (b:Bool) (n:Nat) (h:bitLen n<=65536):AF Tryz.prog 146 [Dj b n] (.lit (.tuple #[Al (Fn b n),.int .i64 0])):=by
 have hl:=pU h
 have hb:=Ano h
 have h1:decide ((65536:Int)<(bitLen n:Int))=false:=decide_eq_false ω
 cases b with
 |false=>rw[<-fI];exact Ana n h1 hl hb
 |true=>
  by_cases h0:0<n
  have:=Yx h0
  rw[<-yI h0];exact AmY n h1 (decide_eq_true ω) hl hb
  obtain rfl:n=0:=by omega
  have e:Fn true 0=Fn false 0:=rfl
  rw[e,<-fI];exact AmZ 0 h1 (decide_eq_false (by rw[Ct];decide)) hl hb
theorem tK {n k:Nat}:Nat.gcd n k∣n:=Nat.gcd_dvd_left n k
theorem Yt {n k:Nat}:Nat.gcd n k∣k:=Nat.gcd_dvd_right n k
theorem xO (b:Bool) (n:Nat) (c:Bool) (k:Nat) (h0:0<k) (hn:bitLen n<=65536) (hk:bitLen k<=65536):AF Tryz.prog 209 [Dj b n,Dj c k] (.lit (.tuple #[.agg #[.bool (decide (Fn (!decide (b=c)) (Eu b n (Nat.gcd n k))<0)),.string (Cz (Fn (!decide (b=c)) (Eu b n (Nat.gcd n k))).natAbs),.bool (decide (Fn (!decide (c=c)) (Eu c k (Nat.gcd n k))<0)),.string (Cz (Fn (!decide (c=c)) (Eu c k (Nat.gcd n k))).natAbs)],.int .i64 0])):=by
 have hg:0<Nat.gcd n k:=Nat.gcd_pos_of_pos_right n h0
 have l1:=pU hn
 have l2:=pU hk
 have hg1:=pV (n:=n) h0
 have hq1:bitLen (Eu b n (Nat.gcd n k))<=65536:=Ot tK hn
 have hq2:bitLen (Eu c k (Nat.gcd n k))<=65536:=Ot Yt hk
 refine Au func209 rfl λB D0 hA0=>?_
 exact Ae 9 (Cl [(6,_,.none)] [2,3,4,6] ⟨Be (dK n k ω ω),trivial⟩ (Ae 5 (Ao (Ja b n c (Nat.gcd n k) ω ω ω) (Ae 10 (Ao (Ja c k c (Nat.gcd n k) ω ω ω) (Ae 9 (Ao (lI (!decide (b=c)) (Eu b n (Nat.gcd n k)) θ) (Ae 11 (Ao (lI (!decide (c=c)) (Eu c k (Nat.gcd n k)) θ) (Ae 32 (Cm)))))))))))
def Al7 (v:Rr×Int):AV:= .lit (.tuple #[.agg #[.bool v.1.num.neg,.string v.1.num.mag,.bool v.1.den.neg,.string v.1.den.mag],.int .i64 v.2])
def Ap0 (r:AV):Prop:=∃v:Rr×Int,(v.2=0->Wc v.1)/\r=Al7 v
theorem Ao0 (b:Bool) (n:Nat) (c:Bool) (k:Nat) (h0:0<k) (hn:bitLen n<=65536) (hk:bitLen k<=65536):Wc ⟨⟨decide (Fn (!decide (b=c)) (Eu b n (Nat.gcd n k))<0),Cz (Fn (!decide (b=c)) (Eu b n (Nat.gcd n k))).natAbs⟩,⟨decide (Fn (!decide (c=c)) (Eu c k (Nat.gcd n k))<0),Cz (Fn (!decide (c=c)) (Eu c k (Nat.gcd n k))).natAbs⟩⟩:=by
 refine⟨_,_,?_,?_,?_,rfl⟩
 show bitLen _<=_
 rw[Pj];exact Ot tK hn
 show bitLen _<=_
 rw[Pj];exact Ot Yt hk
 rw[show (!decide (c=c))=false by simp,fU Yt]
 have:=Nat.div_pos (Nat.le_of_dvd h0 Yt) (Nat.gcd_pos_of_pos_right n h0)
 unfold Fn
 rw[if_neg δ]
 omega
theorem Ajy (x y:Int) (hx:Cb x) (hy:Cb y) (h1:bitLen x.natAbs<=65536) (h2:bitLen y.natAbs<=65536):∃r,(Ga [.agg [.b,.s,.b,.s],.one .i] r/\Ap0 r)/\AF Tryz.prog 160 [WA x,WA y] r:=by
 have hd:=hx.digits
 have he:=hy.digits
 refine Av func160 rfl ?_
 refine Ab 13 (gs (Ao (Hv x y θ θ) ·) (Ab 11 (gs (Bo (.bool ((Cz y.natAbs).toList==(⟨#[]⟩:ByteArray).toList)) (.bool ((Cz y.natAbs).toList==(⟨#[]⟩:ByteArray).toList)) ·) (Ab 2 (tsb 13 ((Cz y.natAbs).toList==(⟨#[]⟩:ByteArray).toList) (λhx1=>?_) (λhx1=>?_))))))
 exact Ab 10 (Fc (.lit (.tuple #[.agg #[.bool false,.string ⟨#[]⟩,.bool false,.string ⟨#[]⟩],.int .i64 3])) ⟨(⟨⟨false,⟨#[]⟩⟩,⟨false,⟨#[]⟩⟩⟩,3),λh=>absurd h δ,rfl⟩)
 refine Ab 3 ?_
 have hp:=Aba hx1
 exact Ab 1 (gs (Cl [(1,_,.none),(3,_,.none),(4,_,.none)] [4,5] ⟨Be (Da x θ),Be (Da y θ),Be (xO (decide (x<0)) x.natAbs (decide (y<0)) y.natAbs θ θ θ),trivial⟩ ·) (Ab 2 (Fc (.lit (.tuple #[.agg #[.bool (decide (Fn (!decide ((decide (x<0))=(decide (y<0)))) (Eu (decide (x<0)) x.natAbs (Nat.gcd x.natAbs y.natAbs))<0)),.string (Cz (Fn (!decide ((decide (x<0))=(decide (y<0)))) (Eu (decide (x<0)) x.natAbs (Nat.gcd x.natAbs y.natAbs))).natAbs),.bool (decide (Fn (!decide ((decide (y<0))=(decide (y<0)))) (Eu (decide (y<0)) y.natAbs (Nat.gcd x.natAbs y.natAbs))<0)),.string (Cz (Fn (!decide ((decide (y<0))=(decide (y<0)))) (Eu (decide (y<0)) y.natAbs (Nat.gcd x.natAbs y.natAbs))).natAbs)],.int .i64 0])) ⟨(⟨⟨decide (Fn (!decide ((decide (x<0))=(decide (y<0)))) (Eu (decide (x<0)) x.natAbs (Nat.gcd x.natAbs y.natAbs))<0),Cz (Fn (!decide ((decide (x<0))=(decide (y<0)))) (Eu (decide (x<0)) x.natAbs (Nat.gcd x.natAbs y.natAbs))).natAbs⟩,⟨decide (Fn (!decide ((decide (y<0))=(decide (y<0)))) (Eu (decide (y<0)) y.natAbs (Nat.gcd x.natAbs y.natAbs))<0),Cz (Fn (!decide ((decide (y<0))=(decide (y<0)))) (Eu (decide (y<0)) y.natAbs (Nat.gcd x.natAbs y.natAbs))).natAbs⟩⟩,0),λ_=>Ao0 _ _ _ _ θ θ θ,rfl⟩)))
theorem Ajz (x y:Int) (hx:Cb x) (hy:Cb y):∃v:Rr×Int,(v.2=0->Wc v.1)/\AF Tryz.prog 160 [WA x,WA y] (Al7 v):=by
 obtain⟨r,⟨_,v,hv,rfl⟩,h⟩:=Ajy x y hx hy hx hy
 exact⟨v,hv,h⟩
theorem Aj0 (x y:Int) (hx0: -9223372036854775808<=x) (hx1:x<=9223372036854775807) (hy0: -9223372036854775808<=y) (hy1:y<=9223372036854775807):∃r,(Ga [.agg [.b,.s,.b,.s],.one .i] r/\Ap0 r)/\AF Tryz.prog 217 [.int x,.int y] r:=by
 have hx:=Eo hx0 hx1
 have hy:=Eo hy0 hy1
 refine Av func217 rfl ?_
 exact Ab 9 (gs (Ao (Dh x θ θ) ·) (Ab 1 (gs (Ao (Dh y θ θ) ·) (Exists.elim (Ajz x y θ θ) λv1 hv1=>(gs (Ao hv1.2 ·) (Ab 7 (Fc (Al7 v1) ⟨v1,hv1.1,rfl⟩)))))))
theorem iP (x y:Int) (hx0: -9223372036854775808<=x) (hx1:x<=9223372036854775807) (hy0: -9223372036854775808<=y) (hy1:y<=9223372036854775807):∃v:Rr×Int,(v.2=0->Wc v.1)/\AF Tryz.prog 217 [.int x,.int y] (Al7 v):=by
 obtain⟨r,⟨_,v,hv,rfl⟩,h⟩:=Aj0 x y hx0 hx1 hy0 hy1
 exact⟨v,hv,h⟩
open Go.Sort hiding Below
theorem AaC {w w':World} (hb:Below w.heap.size w w') (hd:w.drawn<=w'.drawn):∃q os',w'=grow (w.drewN q) os':=by
 refine⟨w'.drawn-w.drawn,w'.heap.extract w.heap.size w'.heap.size,?_⟩
 have e:w'.heap=w.heap++w'.heap.extract w.heap.size w'.heap.size:=by
  apply Array.ext
  have:=hb.size
  simp;omega
  intro i h1 h2
  by_cases hi:i<w.heap.size
  rw[Array.getElem_append_left hi]
  have:=hb.block i hi
  rw[Array.getElem?_eq_getElem h1,Array.getElem?_eq_getElem hi] at this
  exact Option.some.inj this
  rw[Array.getElem_append_right ω]
  simp[show w.heap.size+(i-w.heap.size)=i by omega]
 obtain⟨h1,h2,h3,h4,h5⟩:=w'
 have g1:=hb.os;have g2:=hb.tape;have g3:=hb.output
 simp only at e g1 g2 g3 hd
 show _=World.mk _ _ _ _ _
 simp only[World.drewN]
 rw[<-e,g1,g2,g3,show w.drawn+(h3-w.drawn)=h3 by omega]
theorem sX {f:FuncId} {l:List Value} {r:Value} (h:AF Tryz.prog f (l.map .lit) (.lit r)) (w:World):Calls Tryz.prog f l.toArray w λe w'=>e= .returned r/\∃q os',w'=grow (w.drewN q) os':=by
 refine(Drw.calls_drawn (h { π:=λ_=>0,cap:=λ_=>0,A:=λ_=>False,D:=λ_=>False,w:=w } l.toArray (λ_ h=>h.elim) (by simp) λi hi=>?_)).mono ?_
 have h2:i<l.length:=by simpa using hi
 have e1:(l.map AV.lit).getD i .top= .lit (l.toArray.getD i undef):=by simp[h2]
 rw[e1];exact .lit _ _
 rintro e w' ⟨⟨v,D',rfl,hr,hb,_,_,_⟩,hd⟩
 exact⟨by rw[hr.lit_inv],AaC hb (hd (by simp))⟩
abbrev RQ:={r:Rr//Wc r}
theorem iO:Wc ⟨⟨false,⟨#[]⟩⟩,⟨decide ((1:Int)<0),Cz 1⟩⟩:=⟨0,1,Eo δ δ,Eo δ δ,δ,by
 have e:Cz (0:Int).natAbs=⟨#[]⟩:=To
 show AV.lit (Value.agg #[.bool false,.string ⟨#[]⟩,.bool (decide ((1:Int)<0)),.string (Cz 1)])=AV.lit (Value.agg #[.bool (decide ((0:Int)<0)),.string (Cz (0:Int).natAbs),.bool (decide ((1:Int)<0)),.string (Cz (1:Int).natAbs)])
 rw[e];rfl⟩
noncomputable instance:Inhabited RQ:=⟨⟨_,iO⟩⟩
def tE (r:RQ):List Value:=[.bool r.1.num.neg,.string r.1.num.mag,.bool r.1.den.neg,.string r.1.den.mag]
noncomputable def rqx (r:RQ):Int:=r.2.choose
noncomputable def rqy (r:RQ):Int:=r.2.choose_spec.choose
theorem Pp (r:RQ):Cb (rqx r)/\Cb (rqy r)/\0<rqy r/\Cu r.1=Iq (rqx r) (rqy r):=r.2.choose_spec.choose_spec
noncomputable def cfQ (a b:RQ):Int:=(rqx a*rqy b-rqx b*rqy a).sign
theorem Rz {a b:RQ}:cfQ a b<0↔rqx a*rqy b<rqx b*rqy a:=by
 unfold cfQ
 constructor
 intro h
 refine Int.not_le.1 λh2=>?_
 have:0<=(rqx a*rqy b-rqx b*rqy a).sign:=Int.sign_nonneg_iff.2 ω
 omega
 intro h
 rw[Int.sign_eq_neg_one_of_neg ω]
 decide
theorem AgF {a b c d e f:Int} (hb:0<b) (hd:0<d) (hf:0<f) (h1:a*d<c*b) (h2:c*f<e*d):a*f<e*b:=by
 have g1:a*d*f<c*b*f:=Int.mul_lt_mul_of_pos_right h1 hf
 have g2:c*f*b<e*d*b:=Int.mul_lt_mul_of_pos_right h2 hb
 have e1:c*b*f=c*f*b:=by rw[Int.mul_assoc,Int.mul_comm b f,<-Int.mul_assoc]
 have e2:a*d*f=a*f*d:=by rw[Int.mul_assoc,Int.mul_comm d f,<-Int.mul_assoc]
 have e3:e*d*b=e*b*d:=by rw[Int.mul_assoc,Int.mul_comm d b,<-Int.mul_assoc]
 have g3:a*f*d<e*b*d:=by rw[<-e2,<-e3];rw[e1] at g1;exact Int.lt_trans g1 g2
 exact Int.lt_of_mul_lt_mul_right g3 (Int.le_of_lt hd)
theorem AgE {a b c d e f:Int} (hb:0<b) (hd:0<d) (hf:0<f) (h1:a*d<=c*b) (h2:c*f<=e*d):a*f<=e*b:=by
 have g1:a*d*f<=c*b*f:=Int.mul_le_mul_of_nonneg_right h1 (Int.le_of_lt hf)
 have g2:c*f*b<=e*d*b:=Int.mul_le_mul_of_nonneg_right h2 (Int.le_of_lt hb)
 have e1:c*b*f=c*f*b:=by rw[Int.mul_assoc,Int.mul_comm b f,<-Int.mul_assoc]
 have e2:a*d*f=a*f*d:=by rw[Int.mul_assoc,Int.mul_comm d f,<-Int.mul_assoc]
 have e3:e*d*b=e*b*d:=by rw[Int.mul_assoc,Int.mul_comm d b,<-Int.mul_assoc]
 have g3:a*f*d<=e*b*d:=by rw[<-e2,<-e3];rw[e1] at g1;exact Int.le_trans g1 g2
 exact Int.le_of_mul_le_mul_right g3 hd
theorem Aqs:SWO (ltOf cfQ) where
 irrefl x:=decide_eq_false λh=>by have:=Rz.1 h;omega
 trans x y z h1 h2:=decide_eq_true (Rz.2 (AgF (Pp x).2.2.1 (Pp y).2.2.1 (Pp z).2.2.1 (Rz.1 (of_decide_eq_true h1)) (Rz.1 (of_decide_eq_true h2))))
 ntrans x y z h1 h2:=decide_eq_false λh=>by
  have k1:¬(rqx x*rqy y<rqx y*rqy x):=λg=>of_decide_eq_false h1 (Rz.2 g)
  have k2:¬(rqx y*rqy z<rqx z*rqy y):=λg=>of_decide_eq_false h2 (Rz.2 g)
  have k3:=Rz.1 h
  have:=AgE (Pp z).2.2.1 (Pp y).2.2.1 (Pp x).2.2.1 (Int.not_lt.1 k2) (Int.not_lt.1 k1)
  omega
theorem AjI (a b:RQ):AF Tryz.prog 167 [Cu a.1,Cu b.1] (.lit (.tuple #[.int .i64 (cfQ a b),.int .i64 0])):=by
 obtain⟨h1,h2,h3,h4⟩:=Pp a
 obtain⟨k1,k2,k3,k4⟩:=Pp b
 rw[h4,k4]
 exact AfE _ _ _ _ h1 h2 k1 k2 h3 k3
theorem Acq (a b:RQ):AF Tryz.prog 166 [Cu a.1,Cu b.1] (.lit (.int .i64 (cfQ a b))):=by
 refine Au func166 rfl λB D0 hA0=>?_
 exact Ae 11 (Ao (AjI a b) (Ae 14 (Cm)))
theorem AgB (blk off size:Nat) (w:World):CmpLays Tryz.prog 166 #[] tE 4 cfQ blk off size w:=λ_ _ _ _ x y=>sX (l:=[.agg (tE x).toArray,.agg (tE y).toArray]) (Acq x y) _
noncomputable def AbM (d:Array RQ):Array RQ:=pdq (ltOf cfQ) d 0 d.size (Lib.bitLen d.size) true true
theorem Aa2 (d:Array RQ):(AbM d).size=d.size:=(pdq_sorts (ltOf cfQ) Aqs d 0 d.size (Lib.bitLen d.size) true true Ω ζ (Or.inl rfl)).1.1
theorem AbZ (d:Array RQ) (hd:d.size<4611686018427387904):AFW Tryz.prog 168 4 tE d (AbM d) [.func (.func 166) #[] #[]]:=λblk off cap w hH hb=>by
 have h:=AnyQ.slices_SortFunc_eq Tryz.laysSort 4 (λw=>by kernel_rfl) (λw=>by kernel_rfl) tE (λ_=>rfl) (λx v hv=>by
  unfold tE at hv
  simp at hv
  rcases hv with rfl|rfl|rfl|rfl<;>rfl) cfQ Aqs 166 #[] blk off cap d w (λargs w=>by kernel_rfl) (AgB blk off d.size w) hH hb hd
 refine h.mono ?_
 rintro e w' ⟨rfl,n,os,rfl⟩
 exact⟨rfl,n,os,rfl⟩
theorem Rd {f:FuncId} {t:TypeId} {us:List Value} {hs:Td} {args:List AV} {σ:List SC} (h:∃V us',(shV σ V=true/\∃e,us'=[.int .i64 e])/\kU Tryz.prog f t us us' hs args V):∃v:Value×Int,kU Tryz.prog f t us [.int .i64 v.2] hs args (Hi σ v.1):=by
 obtain⟨V,us',⟨h1,e,rfl⟩,h2⟩:=h
 exact⟨(V,e),by rw[Aah σ V h1];exact h2⟩
structure Sq where
 u:Rw
 v:Rw
 w:Rw
abbrev sqA (p:Sq):AV:= .lit (.agg #[.bool p.u.neg,.string p.u.mag,.bool p.v.neg,.string p.v.mag,.bool p.w.neg,.string p.w.mag])
theorem fR (e:Int) (a:Rw) (f:Int):∃v:Value×Int,kU Tryz.prog 172 264 [.int .i64 e] [.int .i64 v.2] [] [.ptr 0 0,Fv a,.int f] (Hi [.agg [.b,.s]] v.1):=by
 refine Rd (Kx func172 rfl ?_)
 refine Ab 16 (Ev 11 ?_ ?_)
 exact Ab 16 (Sp (.agg #[.bool a.neg,.string a.mag]) [.int .i64 f] ⟨rfl,_,rfl⟩)
 exact Ab 10 (Sp (.agg #[.bool a.neg,.string a.mag]) [.int .i64 e] ⟨rfl,_,rfl⟩)
theorem Ml (e:Int) (a:Rw) (b:Rw):∃v:Value×Int,kU Tryz.prog 171 264 [.int .i64 e] [.int .i64 v.2] [] [.ptr 0 0,Fv a,Fv b] (Hi [.agg [.b,.s]] v.1):=by
 refine Rd (Kx func171 rfl ?_)
 exact Ab 12 (Dx (eZ a b) λv1 hv1=>(gs (Ao hv1 ·) (Ab 2 (Exists.elim (fR e (⟨(gB (gT (gT v1 0) 0)),(gS (gT (gT v1 0) 1))⟩) (gI (gT v1 1))) λv2 hv2=>(gs (vcx 0 [] hv2 ·) (Ab 4 (Sp (.agg #[.bool (gB (gT v2.1 0)),.string (gS (gT v2.1 1))]) [.int .i64 v2.2] ⟨rfl,_,rfl⟩)))))))
theorem oS (e:Int) (a:Rw) (b:Rw):∃v:Value×Int,kU Tryz.prog 226 264 [.int .i64 e] [.int .i64 v.2] [] [.ptr 0 0,Fv a,Fv b] (Hi [.agg [.b,.s]] v.1):=by
 refine Rd (Kx func226 rfl ?_)
 exact Ab 12 (Dx (AfP a b) λv1 hv1=>(gs (Ao hv1 ·) (Ab 2 (Exists.elim (fR e (⟨(gB (gT (gT v1 0) 0)),(gS (gT (gT v1 0) 1))⟩) (gI (gT v1 1))) λv2 hv2=>(gs (vcx 0 [] hv2 ·) (Ab 4 (Sp (.agg #[.bool (gB (gT v2.1 0)),.string (gS (gT v2.1 1))]) [.int .i64 v2.2] ⟨rfl,_,rfl⟩)))))))
theorem yQ (e:Int) (x:Rr) (y:Rr):∃v:Value×Int,kU Tryz.prog 176 264 [.int .i64 e] [.int .i64 v.2] [] [.ptr 0 0,Cu x,Cu y] (Hi [.agg [.b,.s,.b,.s,.b,.s]] v.1):=by
 refine Rd (Kx func176 rfl ?_)
 exact Ab 8 (Exists.elim (Ml e x.num y.den) λv1 hv1=>(Exists.elim (Ml v1.2 y.num x.den) λv2 hv2=>(Exists.elim (Ml v2.2 x.den y.den) λv3 hv3=>(gs (Cl [(5,_,_),(11,_,_),(17,_,_)] [6] ⟨bN 0 [] hv1,bN 0 [] hv2,bN 0 [] hv3,trivial⟩ ·) (Ab 2 (Sp (.agg #[.bool (gB (gT v1.1 0)),.string (gS (gT v1.1 1)),.bool (gB (gT v2.1 0)),.string (gS (gT v2.1 1)),.bool (gB (gT v3.1 0)),.string (gS (gT v3.1 1))]) [.int .i64 v3.2] ⟨rfl,_,rfl⟩))))))
theorem Qx (e:Int) (n:Int) (m:Int) (t:Rr):∃v:Value×Int,kU Tryz.prog 170 264 [.int .i64 e] [.int .i64 v.2] [] [.int n,.int m,Cu t,.ptr 0 0] (Hi [.agg [.b,.s,.b,.s]] v.1):=by
 refine Rd (Kx func170 rfl ?_)
 exact Ab 7 (Dx (Mj m) λv1 hv1=>(Exists.elim (Ml e (⟨(gB (gT v1 0)),(gS (gT v1 1))⟩) t.num) λv2 hv2=>(gs (Cl [(1,_,.none),(4,_,_)] [0,3,6,7,8] ⟨Be hv1,bN 0 [] hv2,trivial⟩ ·) (Ab 2 (Dx (Mj n) λv3 hv3=>(Exists.elim (Ml v2.2 (⟨(gB (gT v3 0)),(gS (gT v3 1))⟩) t.den) λv4 hv4=>(Dx (rZ (⟨(gB (gT v2.1 0)),(gS (gT v2.1 1))⟩) (⟨(gB (gT v4.1 0)),(gS (gT v4.1 1))⟩)) λv5 hv5=>(Exists.elim (fR v4.2 (⟨(gB (gT (gT v5 0) 0)),(gS (gT (gT v5 0) 1))⟩) (gI (gT v5 1))) λv6 hv6=>(gs (Cl [(2,_,.none),(5,_,_),(6,_,.none),(9,_,_)] [7] ⟨Be hv3,bN 0 [] hv4,Be hv5,bN 0 [] hv6,trivial⟩ ·) (Ab 2 (Sp (.agg #[.bool (gB (gT v6.1 0)),.string (gS (gT v6.1 1)),.bool t.den.neg,.string t.den.mag]) [.int .i64 v6.2] ⟨rfl,_,rfl⟩)))))))))))
theorem Abc (e:Int) (p:Sq) (a:V3):∃v:Value×Int,kU Tryz.prog 225 264 [.int .i64 e] [.int .i64 v.2] [(316,[.ptr 0 0]),(269,[.lit (.bool p.u.neg),.lit (.string p.u.mag),.lit (.bool p.v.neg),.lit (.string p.v.mag),.lit (.bool p.w.neg),.lit (.string p.w.mag)])] [Bg a,.ptr 1 0,.ptr 2 0] (Hi [.agg [.b,.s],.agg [.b,.s]] v.1):=by
 refine Rd (Kx func225 rfl ?_)
 exact Ab 8 (Dx (Mj a.x) λv1 hv1=>(Exists.elim (Ml e (⟨(gB (gT v1 0)),(gS (gT v1 1))⟩) p.w) λv2 hv2=>(Exists.elim (oS v2.2 p.u (⟨(gB (gT v2.1 0)),(gS (gT v2.1 1))⟩)) λv3 hv3=>(Dx (Mj a.y) λv4 hv4=>(Exists.elim (Ml v3.2 (⟨(gB (gT v4 0)),(gS (gT v4 1))⟩) p.w) λv5 hv5=>(Exists.elim (oS v5.2 p.v (⟨(gB (gT v5.1 0)),(gS (gT v5.1 1))⟩)) λv6 hv6=>(gs (Cl [(6,_,.none),(9,_,_),(10,_,_),(17,_,.none),(20,_,_),(21,_,_)] [4,5] ⟨Be hv1,bN 0 [] hv2,bN 0 [] hv3,Be hv4,bN 0 [] hv5,bN 0 [] hv6,trivial⟩ ·) (Ab 2 (Sp (.tuple #[.agg #[.bool (gB (gT v3.1 0)),.string (gS (gT v3.1 1))],.agg #[.bool (gB (gT v6.1 0)),.string (gS (gT v6.1 1))]]) [.int .i64 v6.2] ⟨rfl,_,rfl⟩)))))))))
theorem AkC (e:Int) (p:Sq) (a:V3) (b:V3):∃v:Value×Int,kU Tryz.prog 227 264 [.int .i64 e] [.int .i64 v.2] [(316,[.ptr 0 0]),(269,[.lit (.bool p.u.neg),.lit (.string p.u.mag),.lit (.bool p.v.neg),.lit (.string p.v.mag),.lit (.bool p.w.neg),.lit (.string p.w.mag)]),(318,[.fn 225 [.ptr 1 0,.ptr 2 0]])] [Bg a,Bg b,.ptr 3 0,.ptr 1 0] (Hi [.one .i] v.1):=by
 refine Rd (Kx func227 rfl ?_)
 exact Ab 11 (Exists.elim (Abc e p a) λv1 hv1=>(gs (vcx 0 [1,2] hv1 ·) (Ab 10 (Dx (Mj (Ai (b.x-a.x))) λv2 hv2=>(Exists.elim (Ml v1.2 (⟨(gB (gT v2 0)),(gS (gT v2 1))⟩) (⟨(gB (gT (gT v1.1 1) 0)),(gS (gT (gT v1.1 1) 1))⟩)) λv3 hv3=>(Dx (Mj (Ai (b.y-a.y))) λv4 hv4=>(Exists.elim (Ml v3.2 (⟨(gB (gT v4 0)),(gS (gT v4 1))⟩) (⟨(gB (gT (gT v1.1 0) 0)),(gS (gT (gT v1.1 0) 1))⟩)) λv5 hv5=>(Exists.elim (oS v5.2 (⟨(gB (gT v3.1 0)),(gS (gT v3.1 1))⟩) (⟨(gB (gT v5.1 0)),(gS (gT v5.1 1))⟩)) λv6 hv6=>(Dx (Il (⟨(gB (gT v6.1 0)),(gS (gT v6.1 1))⟩)) λv7 hv7=>(gs (Cl [(7,_,.none),(9,_,_),(16,_,.none),(18,_,_),(19,_,_),(20,_,.none)] [6] ⟨Be hv2,bN 0 [] hv3,Be hv4,bN 0 [] hv5,bN 0 [] hv6,Be hv7,trivial⟩ ·) (Ab 2 (Sp (.int .i64 (gI v7)) [.int .i64 v6.2] ⟨rfl,_,rfl⟩))))))))))))
theorem dP (e:Int) (p:Sq) (a:V3) (n:Int):∃v:Value×Int,kU Tryz.prog 228 264 [.int .i64 e] [.int .i64 v.2] [(316,[.ptr 0 0]),(269,[.lit (.bool p.u.neg),.lit (.string p.u.mag),.lit (.bool p.v.neg),.lit (.string p.v.mag),.lit (.bool p.w.neg),.lit (.string p.w.mag)]),(318,[.fn 225 [.ptr 1 0,.ptr 2 0]])] [Bg a,.int n,.ptr 3 0] (Hi [.one .i] v.1):=by
 refine Rd (Kx func228 rfl ?_)
 refine Ab 10 (Exists.elim (Abc e p a) λv1 hv1=>(gs (vcx 0 [1,2] hv1 ·) (Ab 16 (Ev 15 ?_ ?_))))
 exact Ab 4 (Dx (Il (⟨(gB (gT (gT v1.1 0) 0)),(gS (gT (gT v1.1 0) 1))⟩)) λv2 hv2=>(gs (Ao hv2 ·) (gs (Bo (.int .i64 (Ai (0-(gI v2)))) (.int .i64 (Ai (0-(gI v2)))) ·) (Ab 5 (Sp (.int .i64 (Ai (0-(gI v2)))) [.int .i64 v1.2] ⟨rfl,_,rfl⟩)))))
 exact Ab 6 (Dx (Il (⟨(gB (gT (gT v1.1 1) 0)),(gS (gT (gT v1.1 1) 1))⟩)) λv3 hv3=>(gs (Ao hv3 ·) (gs (Bo (.int .i64 (Ai (0-(gI v3)))) (.int .i64 (Ai (0-(gI v3)))) ·) (Ab 4 (Sp (.int .i64 (Ai (0-(gI v3)))) [.int .i64 v1.2] ⟨rfl,_,rfl⟩)))))
theorem AcR (e:Int) (l:Vs) (p:Sq) (h0:l.n<=64):∃v:Value×Int,kU Tryz.prog 179 264 [.int .i64 e] [.int .i64 v.2] [] [.ptr 0 0,Cj l,sqA p] (Hi [.one .i] v.1):=by
 refine Rd (Kx func179 rfl ?_)
 refine Ab 19 (cX func88 (Ab 17 (cX func61 (Ab 13 (Ix (Ab 3 (gs (vnm [4,5,6,7,16] ·) (vW func87 λsp3 sp3p sp3a sp3b=>(Ab 8 (Vr [0,1,6,7,8] (λm s=>∃i iw ie,m=l.n-i/\(i<=l.n)/\s=⟨[(0,.yld 9),(1,.ptr 8 0),(6,Cj l),(7,.int (l.n:Int)),(8,.int (i:Int))],[(0,.box 264 [.int ie]),(1,.box 316 [.ptr 0 0]),(2,.box 269 [.bool p.u.neg,.lit (.string p.u.mag),.bool p.v.neg,.lit (.string p.v.mag),.bool p.w.neg,.lit (.string p.w.mag)]),(3,.box 318 [.fn 225 [.ptr 1 0,.ptr 2 0]]),(4,.box 166 [.fn 227 [.ptr 3 0,.ptr 1 0]]),(5,.box 168 [.fn 228 [.ptr 3 0]]),(6,.box 3 [.int 0]),(7,.box 3 [.int iw]),(8,.box 22 [Cj l]),(9,.loop .ready none sp3 [(4,.ptr 4 0),(5,.ptr 5 0),(6,.ptr 6 0),(7,.ptr 7 0),(16,.fn 87 [.ptr 8 0])] 77)],10,35⟩) (l.n-0) ⟨0,0,e,rfl,Nat.zero_le _,κ⟩ ?_))))))))))
 rintro _ _ ⟨i,iw,ie,rfl,hF,rfl⟩ hJ1
 refine Ab 6 (Hg 9 ((i:Int)<(l.n:Int)) (λhx5 hx5d=>?_) (λhx5 hx5d=>?_))
 refine Ab 8 (gs (Fd i l.n ·) (Ab 7 ?_))
 have hm5:=Nat.mod_lt (i+1) (by omega:0<l.n)
 refine gs (Cl [(2,.int ((i+1:Nat):Int),.none),(5,.int (((i+1)%l.n:Nat):Int),.none),(6,Co (Cj l) ((i+1)%l.n),.none)] [0,1,4,5,6,7,8] ⟨Bk (.int .i64 (IntKind.wrap .i64 ((i:Int)+1))) η,vE ((i+1:Nat):Int) (l.n:Int) (((i+1)%l.n:Nat):Int) ω rfl,Ht ((i+1)%l.n) l.n,trivial⟩ ·) (Ab 14 (jJ sp3p sp3a (Ab 10 (jI sp3b ?_))))
 refine Ab 6 (Exists.elim (AkC ie p (⟨(l.f i).x,(l.f i).y,0⟩) (⟨(l.f ((i+1)%l.n)).x,(l.f ((i+1)%l.n)).y,0⟩)) λv8 hv8=>(gs (vcx 0 [1,2,3] hv8 ·) (Ab 4 (Exists.elim (dP v8.2 p (⟨(l.f i).x,(l.f i).y,0⟩) 0) λv9 hv9=>(Exists.elim (dP v9.2 p (⟨(l.f i).x,(l.f i).y,0⟩) 1) λv10 hv10=>(Exists.elim (dP v10.2 p (⟨(l.f ((i+1)%l.n)).x,(l.f ((i+1)%l.n)).y,0⟩) 0) λv11 hv11=>(Exists.elim (dP v11.2 p (⟨(l.f ((i+1)%l.n)).x,(l.f ((i+1)%l.n)).y,0⟩) 1) λv12 hv12=>(gs (Cl [(2,_,_),(5,_,_),(8,_,_),(11,_,_)] [6,7,10,11,12,13,14] ⟨bN 0 [1,2,3] hv9,bN 0 [1,2,3] hv10,bN 0 [1,2,3] hv11,bN 0 [1,2,3] hv12,trivial⟩ ·) (Ab 7 (tsh 13 37 false [6,7,10,12,14,48] ?_ (λhS13=>?_)))))))))))
 refine Ab 9 (tsh 10 52 false [7,10,12,14,49] ?_ (λhS14=>?_))
 refine Ab 6 (tsh 10 65 false [7,62] ?_ (λhS15=>?_))
 exact Ab 4 (Pu (Ab 8 (gs (Dd ((i:Int)+1) ((i+1:Nat):Int) ·) (Ab 2 (Fw [0,1,6,7,8] [(0,0),(1,1),(2,2),(3,3),(4,4),(5,5),(6,6),(7,7),(8,8),(9,9)] 10 [] trivial (hJ1 _ _ (by omega:l.n-(i+1)<l.n-i) ⟨i+1,iw,v12.2,rfl,ω,rfl⟩))))))
 refine Ev 65 ?_ ?_
 refine Ab 4 (Ev 69 ?_ ?_)
 refine Ab 6 (Ev 62 ?_ ?_)
 exact Ab 8 (Pu (Ab 8 (gs (Dd ((i:Int)+1) ((i+1:Nat):Int) ·) (Ab 2 (Fw [0,1,6,7,8] [(0,0),(1,1),(2,2),(3,3),(4,4),(5,5),(6,6),(7,7),(8,8),(9,9)] 10 [] trivial (hJ1 _ _ (by omega:l.n-(i+1)<l.n-i) ⟨i+1,(Ai (iw-1)),v12.2,rfl,ω,rfl⟩))))))
 exact Vt [7,62] hS15
 exact Ab 6 (Vt [7,62] hS15)
 exact Ab 10 (Vt [7,62] hS15)
 refine Ev 52 ?_ ?_
 refine Ab 4 (Ev 56 ?_ ?_)
 refine Ab 6 (Ev 49 ?_ ?_)
 exact Ab 8 (Pu (Ab 8 (gs (Dd ((i:Int)+1) ((i+1:Nat):Int) ·) (Ab 2 (Fw [0,1,6,7,8] [(0,0),(1,1),(2,2),(3,3),(4,4),(5,5),(6,6),(7,7),(8,8),(9,9)] 10 [] trivial (hJ1 _ _ (by omega:l.n-(i+1)<l.n-i) ⟨i+1,(Ai (iw+1)),v12.2,rfl,ω,rfl⟩))))))
 exact Vt [7,10,12,14,49] hS14
 exact Ab 6 (Vt [7,10,12,14,49] hS14)
 exact Ab 10 (Vt [7,10,12,14,49] hS14)
 refine Ev 37 ?_ ?_
 refine Ab 6 (Ev 43 ?_ ?_)
 refine Ab 7 (Ev 48 ?_ ?_)
 exact Ab 9 (Pu (Ab 9 (bC (Ab 3 (Ix (Ab 4 (Sp (.int .i64 0) [.int .i64 v12.2] ⟨rfl,_,rfl⟩)))))))
 exact Vt [6,7,10,12,14,48] hS13
 exact Ab 7 (Vt [6,7,10,12,14,48] hS13)
 exact Ab 13 (Vt [6,7,10,12,14,48] hS13)
 refine Ab 5 (bC (Ab 9 (Ev 76 ?_ ?_)))
 exact Ab 8 (Ix (Ab 4 (Sp (.int .i64 1) [.int .i64 ie] ⟨rfl,_,rfl⟩)))
 exact Ab 9 (Ix (Ab 4 (Sp (.int .i64 (-1)) [.int .i64 ie] ⟨rfl,_,rfl⟩)))
theorem lT (e:Int) (p:Sq) (l:Vs) (h0:l.n<=64):∃v:Value×Int,kU Tryz.prog 178 264 [.int .i64 e] [.int .i64 v.2] [(269,[.lit (.bool p.u.neg),.lit (.string p.u.mag),.lit (.bool p.v.neg),.lit (.string p.v.mag),.lit (.bool p.w.neg),.lit (.string p.w.mag)])] [Cj l,.ptr 0 0,.ptr 1 0] (Hi [.one .i] v.1):=by
 refine Rd (Kx func178 rfl ?_)
 exact Ab 9 (Exists.elim (AcR e l p ω) λv1 hv1=>(gs (vcx 0 [] hv1 ·) (Ab 4 (Sp (.int .i64 (gI v1.1)) [.int .i64 v1.2] ⟨rfl,_,rfl⟩))))
theorem Ak5 (e:Int) (p:Sq) (l:Vs) (h0:l.n<=64):∃v:Value×Int,kU Tryz.prog 224 264 [.int .i64 e] [.int .i64 v.2] [(269,[.lit (.bool p.u.neg),.lit (.string p.u.mag),.lit (.bool p.v.neg),.lit (.string p.v.mag),.lit (.bool p.w.neg),.lit (.string p.w.mag)]),(273,[.fn 178 [.ptr 0 0,.ptr 1 0]])] [Cj l,.ptr 2 0] (Hi [.one .b] v.1):=by
 refine Rd (Kx func224 rfl ?_)
 exact Ab 9 (Exists.elim (lT e p l ω) λv1 hv1=>(gs (vcx 0 [1] hv1 ·) (Ab 5 (Sp (.bool (decide ((0:Int)<(gI v1.1)))) [.int .i64 v1.2] ⟨rfl,_,rfl⟩))))
theorem Ak2 (e:Int) (p:Sq) (f:Mh) (h0:Zz f):∃v:Value×Int,kU Tryz.prog 223 264 [.int .i64 e] [.int .i64 v.2] [(269,[.lit (.bool p.u.neg),.lit (.string p.u.mag),.lit (.bool p.v.neg),.lit (.string p.v.mag),.lit (.bool p.w.neg),.lit (.string p.w.mag)]),(273,[.fn 178 [.ptr 0 0,.ptr 1 0]])] [hsA f,.fn 224 [.ptr 2 0]] (Hi [.one .b] v.1):=by
 refine Rd ?_
 have hn8:=h0.1
 have hn9:=h0.2.1
 refine Kx func223 rfl ?_
 refine Ab 9 (cX func254 (Ab 14 (Vr [0,1,7,8] (λm s=>∃q qe,m=f.hn-q/\(q<=f.hn)/\s=⟨[(0,hsA f),(1,.fn 224 [.ptr 2 0]),(7,.int (f.hn:Int)),(8,.int (q:Int))],[(0,.box 264 [.int qe]),(1,.box 269 [.bool p.u.neg,.lit (.string p.u.mag),.bool p.v.neg,.lit (.string p.v.mag),.bool p.w.neg,.lit (.string p.w.mag)]),(2,.box 273 [.fn 178 [.ptr 0 0,.ptr 1 0]])],3,19⟩) (f.hn-0) ⟨0,e,rfl,Nat.zero_le _,κ⟩ ?_)))
 rintro _ _ ⟨q,qe,rfl,hF,rfl⟩ hJ1
 have hnq:=h0.2.2 q
 refine Ab 6 (Hg 9 ((q:Int)<(f.hn:Int)) (λhx2 hx2d=>?_) (λhx2 hx2d=>?_))
 refine Ab 16 (gs (Fd q f.hn ·) (Ab 1 (Exists.elim (Ak5 qe p (f.h q) ω) λv3 hv3=>(gs (vcx 0 [1,2] hv3 ·) (Ab 2 (Ev 16 ?_ ?_))))))
 exact Ab 13 (Ix (Ab 5 (Sp (.bool (decide ((0:Int)<=(q:Int)))) [.int .i64 v3.2] ⟨rfl,_,rfl⟩)))
 exact Ab 5 (gs (Dd ((q:Int)+1) ((q+1:Nat):Int) ·) (Ab 2 (nN [0,1,7,8] (hJ1 _ _ (by omega:f.hn-(q+1)<f.hn-q) ⟨q+1,v3.2,rfl,ω,rfl⟩))))
 exact Ab 12 (Ix (Ab 5 (Sp (.bool false) [.int .i64 qe] ⟨rfl,_,rfl⟩)))
theorem yP (e:Int) (p:Sq) (f:Mh) (h0:Zz f):∃v:Value×Int,kU Tryz.prog 177 264 [.int .i64 e] [.int .i64 v.2] [(269,[.lit (.bool p.u.neg),.lit (.string p.u.mag),.lit (.bool p.v.neg),.lit (.string p.v.mag),.lit (.bool p.w.neg),.lit (.string p.w.mag)])] [Jz f,.fn 178 [.ptr 0 0,.ptr 1 0]] (Hi [.one .b] v.1):=by
 refine Rd ?_
 have hn8:=h0.1
 have hn9:=h0.2.1
 refine Kx func177 rfl ?_
 refine Ab 12 (Exists.elim (lT e p f.o ω) λv1 hv1=>(gs (vcx 0 [1] hv1 ·) (Ab 2 (Ev 10 ?_ ?_))))
 exact Ab 3 (Exists.elim (Ak2 v1.2 p f h0) λv3 hv3=>(gs (vcx 0 [1,3] hv3 ·) (Ab 6 (Sp (.bool (!(gB v3.1))) [.int .i64 v3.2] ⟨rfl,_,rfl⟩))))
 exact Ab 10 (Sp (.bool false) [.int .i64 v1.2] ⟨rfl,_,rfl⟩)
theorem Ago (l:Vs) (h0:l.n<=64):∃r,Ga [.one .i] r/\AF Tryz.prog 214 [Cj l] r:=by
 refine Av func214 rfl ?_
 refine Ab 15 (cX func61 (Ab 13 (Ix (Ab 3 (gs (vnm [2,3,7] ·) (vW func87 λsp2 sp2p sp2a sp2b=>(Ab 8 (Vr [0,1,6,7,8] (λm s=>∃i iw,m=l.n-i/\(i<=l.n)/\s=⟨[(0,.yld 2),(1,.ptr 1 0),(6,Cj l),(7,.int (l.n:Int)),(8,.int (i:Int))],[(0,.box 3 [.int iw]),(1,.box 22 [Cj l]),(2,.loop .ready none sp2 [(2,.int 0),(3,.ptr 0 0),(7,.fn 87 [.ptr 1 0])] 24)],3,35⟩) (l.n-0) ⟨0,0,rfl,Nat.zero_le _,κ⟩ ?_))))))))
 rintro _ _ ⟨i,iw,rfl,hF,rfl⟩ hJ1
 refine Ab 6 (Hg 9 ((i:Int)<(l.n:Int)) (λhx4 hx4d=>?_) (λhx4 hx4d=>?_))
 refine Ab 8 (gs (Fd i l.n ·) (Ab 7 ?_))
 have hm4:=Nat.mod_lt (i+1) (by omega:0<l.n)
 refine gs (Cl [(2,.int ((i+1:Nat):Int),.none),(5,.int (((i+1)%l.n:Nat):Int),.none),(6,Co (Cj l) ((i+1)%l.n),.none)] [0,1,4,5,6,7,8] ⟨Bk (.int .i64 (IntKind.wrap .i64 ((i:Int)+1))) η,vE ((i+1:Nat):Int) (l.n:Int) (((i+1)%l.n:Nat):Int) ω rfl,Ht ((i+1)%l.n) l.n,trivial⟩ ·) (Ab 14 (jJ sp2p sp2a (Ab 10 (jI sp2b ?_))))
 exact Ab 18 (Pu (Ab 8 (gs (Dd ((i:Int)+1) ((i+1:Nat):Int) ·) (Ab 2 (Fw [0,1,6,7,8] [(0,0),(1,1),(2,2)] 3 [] trivial (hJ1 _ _ (by omega:l.n-(i+1)<l.n-i) ⟨i+1,(Ai (iw+Ai (Ai (((l.f i).x)*((l.f ((i+1)%l.n)).y))-Ai (((l.f i).y)*((l.f ((i+1)%l.n)).x))))),rfl,ω,rfl⟩))))))
 exact Ab 5 (bC (Ab 9 (Bc)))
noncomputable def Ani (l:Vs):Value:=Kp 214 [.one .i] [Cj l]
theorem Afm (l:Vs) (h0:l.n<=64):AF Tryz.prog 214 [Cj l] (.lit (Hi [.one .i] (Ani l))):=Bn (Ago l h0)
def AgQ (a b:Rw):Bool:=(a.neg==b.neg)&&(a.mag==b.mag)
def Adi (a b:Rr):Bool:=AgQ a.num b.num&&AgQ a.den b.den
theorem Am4 (a b:Rr) (w:World):(Op.equal 246 (.agg #[.bool a.num.neg,.string a.num.mag,.bool a.den.neg,.string a.den.mag]) (.agg #[.bool b.num.neg,.string b.num.mag,.bool b.den.neg,.string b.den.mag])).run Tryz.prog w= .ok (Adi a b) w:=by
 have e:∀(a b:Rw) (w:World),(Op.equalIn 9999 197 (.agg #[.bool a.neg,.string a.mag]) (.agg #[.bool b.neg,.string b.mag])).run Tryz.prog w= .ok (AgQ a b) w:=λa b w=>AbG a.neg b.neg a.mag b.mag w 9997
 have h93:=Tryz.runUnderlying246
 have h91:=isAgg197
 have hs:=sizeOf197
 have hin:Tryz.prog.stoodInHeld 246=false:=κ
 unfold Op.equal
 rw[show Op.maxDepth=9999+1 from rfl]
 unfold Op.equalIn
 simp[h93,part,h91,hs,e,hin]
 unfold Adi
 cases AgQ a.num b.num<;>cases AgQ a.den b.den<;>simp
instance:Inhabited V3:=⟨⟨0,0,0⟩⟩
def AgO (v:V3):List Value:=[.int .i64 v.x,.int .i64 v.y,.int .i64 v.z]
theorem Afl (d:Array V3) (hd:d.size<=9223372036854775807):AFW Tryz.prog 215 3 AgO d d.reverse []:=λblk off cap w hH hb=>by
 have h:=AnyQ.slices_Reverse Tryz.laysRev 3 (λw=>by kernel_rfl) (λw=>by kernel_rfl) AgO (λ_=>rfl) (λx v hv=>by
  unfold AgO at hv
  simp at hv
  rcases hv with rfl|rfl|rfl<;>rfl) blk off cap d w hH hd
 refine h.mono ?_
 rintro e w' ⟨rfl,n,rfl⟩
 exact⟨rfl,n,#[],by rw[grow_empty]⟩
def Ai9 (l:Vs):Vs:=⟨l.n,λk=>if k=0 then l.f 0 else l.f (l.n-k)⟩
def Wm (l:Vs):Array V3:=((List.range (l.n-1)).map λi=>l.f (1+i)).toArray
theorem Fq (l:Vs):(Wm l).size=l.n-1:=by simp[Wm]
theorem vS (l:Vs) (i:Nat) (hi:i<l.n-1):(Wm l)[i]! =l.f (1+i):=by
 rw[getElem!_pos _ i (by rw[Fq];exact hi)]
 simp[Wm]
theorem Ae5 (l:Vs) (i:Nat) (hi:i<l.n-1):(Wm l).reverse[i]! =(Ai9 l).f (1+i):=by
 rw[getElem!_pos _ i (by simp[Fq];exact hi)]
 rw[Array.getElem_reverse]
 have h1:(Wm l).size-1-i<l.n-1:=by rw[Fq];omega
 have h2:=vS l _ h1
 rw[getElem!_pos (Wm l) _ (by have:=Fq l;omega)] at h2
 rw[h2]
 show l.f _=if 1+i=0 then l.f 0 else l.f (l.n-(1+i))
 rw[if_neg ω,show 1+((Wm l).size-1-i)=l.n-(1+i) by rw[Fq];omega]
theorem nQ (v:V3) (j:Nat) (hj:j<3):(Bg v).cell j= .lit ((AgO v)[j]!):=by
 match j,hj with
 |0,_=>rfl
 |1,_=>rfl
 |2,_=>rfl
theorem Aim {B:Nat} {D0:As} {o:Oper} {ev:Operand->AV} {pre:Nat->Option Aw} (x:Operand) (ts:Array TypeId) (id:Nat) (t:TypeId) (l:Vs) (hl:2<=l.n) (hn:l.n<=1000) (ho:o.op= .call { callee:= .value (.func 215),args:=#[x],argTypes:=ts }) (hp:pre id=some (.vec t 3 l.n λi=>Bg (l.f i))) (hx:ev x= .osw id 3 1 (l.n-1)):Dl Tryz.prog B D0 o ev pre (.lit (.tuple #[])) (.set id (.vec t 3 l.n λi=>Bg ((Ai9 l).f i))):=
 mX 215 #[x] ts ho (λ_ _=>by kernel_rfl) id 3 1 l.n t _ _ hp AgO (Wm l) (Wm l).reverse (by simp) (by rw[Fq];omega) (ev x) (by rw[hx,Fq];exact⟨rfl,rfl,rfl,rfl,ω⟩) [] [] rfl rfl (λi hi=>absurd hi (Nat.not_lt_zero i))
  (λi j hi hj=>by rw[Fq] at hi;rw[vS l i hi];exact nQ _ j hj)
  (λi _ h=>by
   rw[Fq] at h
   obtain rfl:i=0:=by omega
   rfl)
  (λi j hi hj=>by rw[Fq] at hi;rw[Ae5 l i hi];exact nQ _ j hj)
  (Afl _ (by rw[Fq];omega))
def gR (g:Nat->RQ) (n:Nat):Array RQ:=((List.range n).map g).toArray
theorem Kw (g:Nat->RQ) (n:Nat):(gR g n).size=n:=by simp[gR]
theorem AhF (g:Nat->RQ) {n i:Nat} (hi:i<n):(gR g n)[i]! =g i:=by
 rw[getElem!_pos _ i (by rw[Kw];exact hi)]
 simp[gR]
noncomputable def Iw (g:Nat->RQ) (n:Nat):Nat->RQ:=λi=>(AbM (gR g n))[i]!
theorem vI (v:RQ) (j:Nat) (hj:j<4):(Cu v.1).cell j= .lit ((tE v)[j]!):=by
 match j,hj with
 |0,_=>rfl
 |1,_=>rfl
 |2,_=>rfl
 |3,_=>rfl
theorem AdT {B:Nat} {D0:As} {o:Oper} {ev:Operand->AV} {pre:Nat->Option Aw} (x y:Operand) (ts:Array TypeId) (id:Nat) (t:TypeId) (n:Nat) (g:Nat->RQ) (hn:n<=1000000) (ho:o.op= .call { callee:= .value (.func 168),args:=#[x,y],argTypes:=ts }) (hp:pre id=some (.vec t 4 n λi=>Cu (g i).1)) (hx:ev x= .osl id 4 n) (hy:ev y= .fn 166 []):Dl Tryz.prog B D0 o ev pre (.lit (.tuple #[])) (.set id (.vec t 4 n λi=>Cu (Iw g n i).1)):=
 mX 168 #[x,y] ts ho (λ_ _=>by kernel_rfl) id 4 0 n t _ _ hp tE (gR g n) (AbM (gR g n)) (Aa2 _) (by rw[Kw];omega) (ev x) (by rw[hx,Kw];exact⟨rfl,rfl,rfl,rfl⟩) [ev y] [.func (.func 166) #[] #[]] rfl rfl (λi hi E v h=>by
   obtain rfl:i=0:=by simp at hi;exact hi
   have h:VR E (ev y) v:=h
   rw[hy] at h
   cases h with
   |fn _ _ _ vs hn _=>
    have:vs=#[]:=Array.eq_empty_of_size_eq_zero hn
    rw[this];rfl)
  (λi j hi hj=>by rw[Kw] at hi;rw[AhF g hi,Nat.zero_add];exact vI _ j hj)
  (λi h1 h=>by rw[Kw] at h;omega)
  (λi j hi hj=>by rw[Nat.zero_add];exact vI _ j hj)
  (AbZ _ (by rw[Kw];omega))
end Go.Proofs.YtkpjchfniejdoaaGreatDoor