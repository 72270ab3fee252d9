/- Part 31 of the proof of PF.card_holds: no condition beyond the row's. -/
import Derived.Test.YtihcpmmopejpoaaGreatDoorPF30
set_option maxRecDepth 100000
set_option maxHeartbeats 40000000
namespace Go.Proofs.YtihcpmmopejpoaaGreatDoor
open Go.Proofs.Tryz
open Go.RowKit
theorem AaO:Gv:=λf a b h=>AcX f a b h
theorem Ahn {b:Bool} (h:AV.bool b= .bool true):b=true:=by injection h with h;injection h
theorem lB (f:Mi):∃r,(Gc [.one .b] r/\(r= .bool true->f.o.n<=8/\f.hn<=1/\∀q,q<f.hn->(f.h q).n<=8))/\AF Tryz.prog 6 [Kk f] r:=by
 refine Au func6 rfl ?_
 refine Ab 13 (Hn 7 ((f.o.n:Int)<=8) (λhx1 hx1d=>?_) (λhx1 hx1d=>?_))
 refine Ab 6 (Hn 13 ((f.hn:Int)<=1) (λhx2 hx2d=>?_) (λhx2 hx2d=>?_))
 refine Ab 5 (Hn 18 ((f.hn:Int)=0) (λhx3 hx3d=>?_) (λhx3 hx3d=>?_))
 exact Ab 12 (Fa (.bool true) (λh=>⟨ω,ω,λq hq=>absurd hq ω⟩))
 exact Ab 2 (gs (Gu 0 f.hn ·) (Ab 9 (Fa (.bool (decide (((f.h 0).n:Int)<=8))) (λh=>by have h9:=of_decide_eq_true (Ahn h);exact⟨ω,ω,λq hq=>by(obtain rfl:q=0:=(ω));omega⟩))))
 exact Ab 17 (Fa (.bool false) (λh=>by cases h))
 exact Ab 23 (Fa (.bool false) (λh=>by cases h))
noncomputable def Ya (f:Mi):Value:=chP 6 [.one .b] [Kk f] λr=>r= .bool true->f.o.n<=8/\f.hn<=1/\∀q,q<f.hn->(f.h q).n<=8
theorem AbP (f:Mi):AF Tryz.prog 6 [Kk f] (.lit (Hp [.one .b] (Ya f))):=(Om (lB f)).1
theorem uO {f:Mi} (hz:∀i,f.hn<=i->(f.h i).n=0) (h:gB (Ya f)=true):Zh f:=by
 have h1:=(Om (lB f)).2 (congrArg AV.bool h)
 refine⟨ω,ω,λi=>?_⟩
 by_cases hi:i<f.hn
 have:=h1.2.2 i hi
 omega
 have:=hz i ω
 omega
def Amj (x:Pm):Prop:=(∀i,x.area.hn<=i->(x.area.h i).n=0)/\Cj x.fr/\Cj x.til/\Cj x.craft
theorem mR (p:Pr) (b:Bool) (h:bP (Aj4 p 3 3)=b):AF Tryz.prog 5 [Gm p,.int 3,.int 3] (.bool b):=by
 have h9:=AeY p 3 3 ⟨δ,δ⟩ ⟨δ,δ⟩
 rwa [h] at h9
theorem Afp {x:Pm} (hx:wY x) {b:Bool} (h:jD x=b):AF Tryz.prog 9 [Fk x] (.bool b):=by
 have h9:=Oh x hx
 rwa [h] at h9
theorem Zj {p:Pr} (hp:Vq p) {b:Bool} (h:De p=b):AF Tryz.prog 11 [Gm p] (.bool b):=by
 have h9:=Gg p hp
 rwa [h] at h9
def Pm.none:Pm:=⟨⟨⟨0,λ_=>V3.zero⟩,0,λ_=>⟨0,λ_=>V3.zero⟩,0,0⟩,0,0,0⟩
abbrev Ly (l:List Pm):AV:= .sl 7 l.length λi=>Fk (l.getD i Pm.none)
def Aa3 (l:List Pm):Prop:=∀i,wY (l.getD i Pm.none)
theorem AaJ (f:Nat->Bool):∀n,∃m,m<=n/\(∀j,j<m->f j=false)/\(m<n->f m=true)
 |0=>⟨0,Nat.le_refl _,λj h=>absurd h (Nat.not_lt_zero j),λh=>absurd h (Nat.lt_irrefl 0)⟩
 |n+1=>by
  obtain⟨m,h1,h2,h3⟩:=AaJ f n
  by_cases hm:m<n
  exact⟨m,ω,h2,λ_=>h3 hm⟩
  obtain rfl:m=n:=by omega
  cases hf:f m with
  |true=>exact⟨m,ω,h2,λ_=>hf⟩
  |false=>
   refine⟨m+1,Nat.le_refl _,λj hj=>?_,λh=>absurd h (Nat.lt_irrefl _)⟩
   by_cases hjm:j<m
   exact h2 j hjm
   obtain rfl:j=m:=by omega
   exact hf
def fdN (n m:Nat):Int:=if m<n then (m:Int) else 0
def fdE (n m:Nat):Int:=if m<n then 0 else 9
theorem nY {n m i:Nat} (h:i=m) (hn:i<n):fdN n m=(i:Int)/\fdE n m=0:=by
 subst h
 exact⟨if_pos hn,if_pos hn⟩
theorem AaI {n m:Nat} (h:¬m<n):fdN n m=0/\fdE n m=9:=⟨if_neg h,if_neg h⟩
theorem AgB {a b c d:Int} (h1:a=c) (h2:b=d):(.lit (.tuple #[.int .i64 a,.int .i64 b]):AV)= .lit (.tuple #[.int .i64 c,.int .i64 d]):=by rw[h1,h2]
theorem qI (n:Nat) (F:Nat->AV) (p:Pr) (st:Int) (hn:100<n):AF Tryz.prog 15 [.sl 7 n F,Gm p,.int st] (.lit (.tuple #[.int .i64 0,.int .i64 2])):=by
 refine As func15 rfl λB D0 hA0=>?_
 exact Ae 13 (Jb 16 (decide ((100:Int)<(n:Int))) true (decide_eq_true ω) (Ae 21 (Ck)))
theorem Td (l:List Pm) (p:Pr) (st:Int) (hpm:Aa3 l) (hp:Vq p) (hl:l.length<=100) (hno:¬((∀q,q<l.length->jD (l.getD q Pm.none)=true)/\De p=true/\(0<=st/\st<=86400000))):AF Tryz.prog 15 [Ly l,Gm p,.int st] (.lit (.tuple #[.int .i64 0,.int .i64 2])):=by
 refine As func15 rfl λB D0 hA0=>?_
 refine Ae 13 (Jb 16 (decide ((100:Int)<(l.length:Int))) false (decide_eq_false ω) (Ae 2 (Ao (Gg p hp) (Ae 3 (cI 22 (De p) (λhx101=>?_) (λhx101=>?_))))))
 ·
  refine Ae 1 (Ao (Mx st 0 86400000) (Ae 4 (pX 26 ((0:Int)<=st/\st<=86400000) (λhx102 hx102d=>?_) (λhx102 hx102d=>?_))))
  ·
   refine Ae 12 (Uz [0,2,4,27,28,29] l.length (λi=>∀q,q<i->jD (l.getD q Pm.none)=true) (λi=>⟨[(0,Ly l),(2,.int st),(4,.ptr 0 0),(27,Ly l),(28,.int (l.length:Int)),(29,.int (i:Int))],[(0,.box 31 [Dh p.names,Fg p.homes,Eu p.acts])],1,59⟩) (λq hq=>absurd hq (Nat.not_lt_zero q)) (λi hin hFi J1 hJ1=>?_))
   refine Ae 6 (Gp 30 ((i:Int)<(l.length:Int)) (λhx103 hx103d=>?_) (λhx103 hx103d=>?_))
   ·
    refine Ae 7 (Gu i l.length (Ae 8 (Ao (Oh (l.getD i Pm.none) (hpm i)) (Ae 3 (cI 35 (jD (l.getD i Pm.none)) (λhx104=>?_) (λhx104=>?_))))))
    ·
     exact Ae 5 (Cv ((i:Int)+1) ((i+1:Nat):Int) (Ae 2 (Ki [0,2,4,27,28,29] [(0,0)] 1 0 hA0 [] trivial (hJ1 ω (λq hq=>(Nat.lt_or_ge q i).elim (hFi q) λg9=>by(obtain rfl:q=i:=(ω));exact hx104)))))
    ·
     exact Ae 13 (Ck)
   ·
    refine Ae 7 ?_
    exact absurd ⟨λq hq=>hFi q ω,hx101,hx102d⟩ hno
  ·
   exact Ae 9 (Ck)
 ·
  exact Ae 15 (Ck)
theorem mS (l:List Pm) (p:Pr) (st:Int) (hpm:Aa3 l) (hp:Vq p) (hl:l.length<=100) (hall:∀q,q<l.length->jD (l.getD q Pm.none)=true) (h:De p=true) (hs:0<=st/\st<=86400000) (hk:p.acts.length=0):AF Tryz.prog 15 [Ly l,Gm p,.int st] (.lit (.tuple #[.int .i64 0,.int .i64 9])):=by
 refine As func15 rfl λB D0 hA0=>?_
 refine Ae 13 (Jb 16 (decide ((100:Int)<(l.length:Int))) false (decide_eq_false ω) (Ae 2 (Ao (Zj hp h) (Ae 4 (Ao (Lu st 0 86400000 ω) (Ae 16 (Uz [0,2,4,27,28,29] l.length (λa=>True) (λa=>⟨[(0,Ly l),(2,.int st),(4,.ptr 0 0),(27,Ly l),(28,.int (l.length:Int)),(29,.int (a:Int))],[(0,.box 31 [Dh p.names,Fg p.homes,Eu p.acts])],1,59⟩) trivial (λa han hFa J1 hJ1=>?_))))))))
 refine Ae 6 (Gp 30 ((a:Int)<(l.length:Int)) (λhx101 hx101d=>?_) (λhx101 hx101d=>?_))
 ·
  exact Ae 7 (Gu a l.length (Ae 8 (Ao (Afp (hpm a) (hall a ω)) (Ae 8 (Cv ((a:Int)+1) ((a+1:Nat):Int) (Ae 2 (Ki [0,2,4,27,28,29] [(0,0)] 1 0 hA0 [] trivial (hJ1 ω trivial))))))))
 ·
  refine Ae 15 (Sv 0 (Ae 6 (Gp 40 ((0:Int)<(l.length:Int)) (λhx102 hx102d=>?_) (λhx102 hx102d=>?_))))
  ·
   exact Ae 8 (Gu 0 l.length (Ae 11 (Ao (bS (l.getD 0 Pm.none) p st (hpm 0) hp (hall 0 ω) h hs hk) (Ae 29 (Ck)))))
  ·
   exact Ae 13 (Ck)
theorem wA (l:List Pm) (p:Pr) (st:Int) (hpm:Aa3 l) (hp:Vq p) (hl:l.length<=100) (hall:∀q,q<l.length->jD (l.getD q Pm.none)=true) (h:De p=true) (hs:0<=st/\st<=86400000) (hE:Gv) (hk:0<p.acts.length) (m:Nat) (hm:m<=l.length) (hb:∀j,j<m->(oP (l.getD j Pm.none) p st).length≠0) (he:m<l.length->(oP (l.getD m Pm.none) p st).length=0):AF Tryz.prog 15 [Ly l,Gm p,.int st] (.lit (.tuple #[.int .i64 (fdN l.length m),.int .i64 (fdE l.length m)])):=by
 refine As func15 rfl λB D0 hA0=>?_
 refine Ae 13 (Jb 16 (decide ((100:Int)<(l.length:Int))) false (decide_eq_false ω) (Ae 2 (Ao (Zj hp h) (Ae 4 (Ao (Lu st 0 86400000 ω) (Ae 16 (Uz [0,2,4,27,28,29] l.length (λa=>True) (λa=>⟨[(0,Ly l),(2,.int st),(4,.ptr 0 0),(27,Ly l),(28,.int (l.length:Int)),(29,.int (a:Int))],[(0,.box 31 [Dh p.names,Fg p.homes,Eu p.acts])],1,59⟩) trivial (λa han hFa J1 hJ1=>?_))))))))
 refine Ae 6 (Gp 30 ((a:Int)<(l.length:Int)) (λhx101 hx101d=>?_) (λhx101 hx101d=>?_))
 ·
  exact Ae 7 (Gu a l.length (Ae 8 (Ao (Afp (hpm a) (hall a ω)) (Ae 8 (Cv ((a:Int)+1) ((a+1:Nat):Int) (Ae 2 (Ki [0,2,4,27,28,29] [(0,0)] 1 0 hA0 [] trivial (hJ1 ω trivial))))))))
 ·
  refine Ae 15 (Uz [2,4,37,38,39] l.length (λi=>i<=m) (λi=>⟨[(2,.int st),(4,.ptr 0 0),(37,Ly l),(38,.int (l.length:Int)),(39,.int (i:Int))],[(0,.box 31 [Dh p.names,Fg p.homes,Eu p.acts])],1,59⟩) Ω (λi hin hFi J2 hJ2=>?_))
  refine Ae 6 (Gp 40 ((i:Int)<(l.length:Int)) (λhx102 hx102d=>?_) (λhx102 hx102d=>?_))
  ·
   refine Ae 8 (Gu i l.length (Ae 11 (Ao (wG (l.getD i Pm.none) p st (hpm i) hp hE (hall i ω) h hs hk) (Ae 24 (Gp 56 (((oP (l.getD i Pm.none) p st).length:Int)=0) (λhx103 hx103d=>?_) (λhx103 hx103d=>?_))))))
   ·
    exact Ae 14 (Fd (.lit (.tuple #[.int .i64 (i:Int),.int .i64 0])) (AgB (nY (n:=l.length) (m:=m) (i:=i) ((Nat.lt_or_ge i m).elim (λg9=>absurd ω (hb i g9)) (λg9=>by omega)) ω).1.symm (nY (n:=l.length) (m:=m) (i:=i) ((Nat.lt_or_ge i m).elim (λg9=>absurd ω (hb i g9)) (λg9=>by omega)) ω).2.symm))
   ·
    exact Ae 5 (Cv ((i:Int)+1) ((i+1:Nat):Int) (Ae 2 (Ki [2,4,37,38,39] [(0,0)] 1 0 hA0 [] trivial (hJ2 ω (by have h9:¬i=m:=λe9=>(by subst e9;have:=he ω;omega);omega)))))
  ·
   exact Ae 13 (Fd (.lit (.tuple #[.int .i64 0,.int .i64 9])) (AgB (AaI ω).1.symm (AaI ω).2.symm))
noncomputable def sI (l:List Pm):Nat->Bool
 |0=>true
 |i+1=>sI l i&&jD (l.getD i Pm.none)
theorem Ao6 {l:List Pm} {i:Nat} (h:sI l i=true):jD (l.getD i Pm.none)=sI l (i+1):=by rw[sI,h,Bool.true_and]
theorem Ao5 {l:List Pm} {i:Nat} (h:sI l i=false):false=sI l (i+1):=by rw[sI,h,Bool.false_and]
theorem AaL {l:List Pm}:∀{n:Nat},(∀q,q<n->jD (l.getD q Pm.none)=true)->sI l n=true
 |0,_=>rfl
 |n+1,h=>by rw[sI,AaL λq hq=>h q ω,h n ω];rfl
theorem AgQ {l:List Pm}:∀{n:Nat},sI l n=true->∀q,q<n->jD (l.getD q Pm.none)=true
 |0,_,q,hq=>absurd hq (Nat.not_lt_zero q)
 |n+1,h,q,hq=>by
  rw[sI,Bool.and_eq_true] at h
  by_cases hqn:q<n
  exact AgQ h.1 q hqn
  obtain rfl:q=n:=by omega
  exact h.2
theorem AlR {x y:AV} (e:x=y) (E:Ar) (v:Value) (h:VR E x v):VR E y v:=e▸h
theorem An2 {a i:Nat} {x:Pm} {l:List Pm} (h:i<a):(List.replicate a x++l).getD i Pm.none=x:=by
 rw[Γ,List.getElem?_append_left (by simpa using h),List.getElem?_replicate,if_pos h]
 rfl
theorem zK {a i:Nat} {x:Pm} {l:List Pm}:(List.replicate a x++l).getD (a+i) Pm.none=l.getD i Pm.none:=by
 rw[Γ,List.getElem?_append_right (by simp),List.length_replicate,Nat.add_sub_cancel_left,Γ]
theorem AjJ (id:Nat) (t:TypeId) (e n:Nat) (f:Nat->AV) (l:List AV) (hl:l.map (rP id (.vec t e n f))=l):(AV.osl id e n::l).map (rP id (.vec t e n f))= .sl e n f::l:=by
 rw[List.map_cons,hl]
 congr 1
 show (if id=id then (if (Nat.beq e e&&Nat.ble n n)=true then AV.sl e n f else .top) else .top)=_
 rw[if_pos rfl,if_pos (by simp)]
theorem bR (l:List Pm) (p:Pr) (st many:Int) (hz:∀i,Amj (l.getD i Pm.none)) (hl:∀a∈p.acts,Cj a.len):mP Qo Tryz.prog 4 [Ly l,Gm p,.int st,.int many] (.bool true):=by
 cases hfw:bP (Aj4 p 3 3) with
 |false=>
  refine Wm Ks func4 rfl λB D0 hA0 hT=>?_
  refine Ae 10 (Ao (mR p _ hfw) (Ae 11 (Su hT Fi ?_)))
  exact Ae 5 (Ck)
 |true=>
  by_cases hn4:l.length<=4
  ·
   have hp:Vq p:=AmF (Aa7 hfw) δ δ hl
   refine Wm Ks func4 rfl λB D0 hA0 hT=>?_
   have copies:∀(g:Bool) (n1 e1:Int),Go Tryz.prog none B D0 (QF Tryz.prog B D0 Tryz.f4 (.bool true)) ⟨.code (oH (Jd Tryz.f4 6)),[.seq (fR 1 (Jd Tryz.f4 6))],⟨[(0,Ly l),(2,.lit (.int .i64 st)),(5,.ptr 0 0),(9,.lit (.bool g)),(11,.lit (.int .i64 n1)),(12,.lit (.int .i64 e1))],[(0,.box 31 [Dh p.names,Fg p.homes,Eu p.acts])],1,168⟩⟩->Go Tryz.prog none B D0 (QF Tryz.prog B D0 Tryz.f4 (.bool true)) ⟨.code (oH (Jd Tryz.f4 5)),[.seq (fR 1 (Jd Tryz.f4 5))],⟨[(0,Ly l),(2,.lit (.int .i64 st)),(3,.lit (.int .i64 many)),(5,.ptr 0 0),(9,.lit (.bool g)),(11,.lit (.int .i64 n1)),(12,.lit (.int .i64 e1))],[(0,.box 31 [Dh p.names,Fg p.homes,Eu p.acts])],1,168⟩⟩:=by
     intro g n1 e1 k20
     refine Ae 5 (Gp 58 ((98:Int)<=many) (λhx101 hx101d=>?_) (λhx101 hx101d=>?_))
     ·
      refine Ae 4 (Gp 62 (many<=102) (λhx102 hx102d=>?_) (λhx102 hx102d=>?_))
      ·
       refine Ae 5 (Gp 67 ((0:Int)<(l.length:Int)) (λhx103 hx103d=>?_) (λhx103 hx103d=>?_))
       ·
        refine Ae 3 (Cv (many+(l.length:Int)) (many+(l.length:Int)) (Ae 4 (Gp 73 ((100:Int)<many+(l.length:Int)) (λhx104 hx104d=>?_) (λhx104 hx104d=>?_))))
        ·
         refine Ae 13 (vlp [0,2,3,5,9,11,12,13,14] (λm s=>∃a,a<=many.toNat/\m=many.toNat-a/\True/\((a=0/\s=⟨[(0,Ly l),(2,.int st),(3,.int many),(5,.ptr 0 0),(9,.bool g),(11,.int n1),(12,.int e1),(13,.lit (.slice none 0 0)),(14,.int ((0:Nat):Int))],[(0,.box 31 [Dh p.names,Fg p.homes,Eu p.acts])],1,168⟩)\/(0<a/\s=⟨[(0,Ly l),(2,.int st),(3,.int many),(5,.ptr 0 0),(9,.bool g),(11,.int n1),(12,.int e1),(13,.osl 60 7 a),(14,.int (a:Int))],[(0,.box 31 [Dh p.names,Fg p.homes,Eu p.acts]),(60,.vec 27 7 a (λ_=>Fk (l.getD 0 Pm.none)))],61,168⟩))) many.toNat ⟨0,Nat.zero_le _,rfl,trivial,.inl ⟨rfl,κ⟩⟩ ?_)
         rintro _ _ ⟨a,han,rfl,hFa,(⟨ha0,rfl⟩|⟨ha0,rfl⟩)⟩ J1 hJ1
         ·
          subst ha0
          refine Ae 8 (Gp 76 (((0:Nat):Int)<many) (λhx105 hx105d=>?_) (λhx105 hx105d=>?_))
          ·
           refine Ae 8 (Gu 0 l.length (Ae 1 (Kb 1 27 7 1 (λ_=>Fk (l.getD 0 Pm.none)) ?_)))
           refine Wz 88 27 27 7 1 1 2 (λ_=>Fk (l.getD 0 Pm.none)) (λ_=>Fk (l.getD 0 Pm.none)) (λi hi=>by rfl) ?_
           exact Ae 6 (Cv (((0:Nat):Int)+1) ((0+1:Nat):Int) (Ae 2 (Ki [0,2,3,5,9,11,12,13,14] [(0,0),(2,60)] 61 0 hA0 [(27,7,1,(λ_=>Fk (l.getD 0 Pm.none))),(27,7,1,(λ_=>Fk (l.getD 0 Pm.none)))] ⟨(Ce λ_ _=>rfl),(Ce λ_ _=>rfl),trivial⟩ (hJ1 _ _ (by omega:many.toNat-(0+1)<many.toNat-0) ⟨0+1,ω,rfl,trivial,.inr ⟨Nat.succ_pos _,rfl⟩⟩))))
          ·
           refine Ae 6 ?_
           exfalso;omega
         ·
          refine Ae 8 (Gp 76 ((a:Int)<many) (λhx106 hx106d=>?_) (λhx106 hx106d=>?_))
          ·
           refine Ae 8 (Gu 0 l.length (Ae 1 (Kb 61 27 7 1 (λ_=>Fk (l.getD 0 Pm.none)) ?_)))
           refine Mt 88 27 27 7 a 1 60 61 62 (λ_=>Fk (l.getD 0 Pm.none)) (λ_=>Fk (l.getD 0 Pm.none)) (λ_=>Fk (l.getD 0 Pm.none)) (λi hi=>rfl) (λi hi=>by rfl) ?_
           exact Ae 6 (Cv ((a:Int)+1) ((a+1:Nat):Int) (Ae 2 (Ki [0,2,3,5,9,11,12,13,14] [(0,0),(62,60)] 61 0 hA0 [(27,7,1,(λ_=>Fk (l.getD 0 Pm.none))),(27,7,a+1,(λ_=>Fk (l.getD 0 Pm.none)))] ⟨(Ce λ_ _=>rfl),(Ce λ_ _=>rfl),trivial⟩ (hJ1 _ _ (by omega:many.toNat-(a+1)<many.toNat-a) ⟨a+1,ω,rfl,trivial,.inr ⟨Nat.succ_pos _,rfl⟩⟩))))
          ·
           exact Ae 7 (Cp [(2,.osl 61 7 (a+l.length),(.grow 60 61 (.vec 27 7 (a+l.length) (λxi=>Fk ((List.replicate a (l.getD 0 Pm.none)++l).getD xi Pm.none))))),(5,.lit (.tuple #[.int .i64 0,.int .i64 2]),(.read 61))] [0,2,5,9,11,12,15,16] ⟨Eb (Pz (.tmp 86) (.tmp 87) 45 κ underlying45 7 88 (.agg #[.slice none 0 0,.slice none 0 0,.int .i64 0,.int .i64 0,.int .i64 0,.int .i64 0,.int .i64 0]) κ κ δ a l.length ω (λ_=>Fk (l.getD 0 Pm.none)) (λi0=>Fk (l.getD i0 Pm.none)) (λxi=>Fk ((List.replicate a (l.getD 0 Pm.none)++l).getD xi Pm.none)) 61 ω (by unfold maxLen;omega) (λi hi=>by show Fk _=Fk _;rw[An2 hi]) (λi hi=>by show Fk _=Fk _;rw[zK]) (λi hi j hj=>match j,hj with|0,_=>rfl|1,_=>rfl|2,_=>rfl|3,_=>rfl|4,_=>rfl|5,_=>rfl|6,_=>rfl|_+7,h=>absurd h ω) 60 κ κ κ),Eb (Ra 15 #[.tmp 88,.tmp 89,.tmp 90] #[45,31,3] κ (λ_ _=>by kernel_rfl) 61 (.vec 27 7 (a+l.length) (λxi=>Fk ((List.replicate a (l.getD 0 Pm.none)++l).getD xi Pm.none))) κ (λ_ _ _ _ h=>by cases h;exact(Ce λ_ _=>rfl)) [.osl 61 7 (a+l.length),Gm p,.int st] κ [.sl 7 (a+l.length) (λxi=>Fk ((List.replicate a (l.getD 0 Pm.none)++l).getD xi Pm.none)),Gm p,.int st] (AjJ _ _ _ _ _ _ κ) (.tuple #[.int .i64 0,.int .i64 2]) (qI (a+l.length) (λxi=>Fk ((List.replicate a (l.getD 0 Pm.none)++l).getD xi Pm.none)) p st ω)),trivial⟩ (Ae 15 (Lc [0,2,5,9,11,12] [(0,0)] 1 0 hA0 [(27,7,a+l.length,(λxi=>Fk ((List.replicate a (l.getD 0 Pm.none)++l).getD xi Pm.none)))] ⟨(Ce λ_ _=>rfl),trivial⟩ k20)))
        ·
         exact Ae 4 (Lc [0,2,5,9,11,12] [(0,0)] 1 0 hA0 [] trivial k20)
       ·
        exact Ae 12 (Lc [0,2,5,9,11,12] [(0,0)] 1 0 hA0 [] trivial k20)
      ·
       exact Ae 17 (Lc [0,2,5,9,11,12] [(0,0)] 1 0 hA0 [] trivial k20)
     ·
      exact Ae 21 (Lc [0,2,5,9,11,12] [(0,0)] 1 0 hA0 [] trivial k20)
   have tail10:(∀q,q<l.length->gB (Ya (l.getD q Pm.none).area)=true)->Go Tryz.prog none B D0 (QF Tryz.prog B D0 Tryz.f4 (.bool true)) ⟨.code (Jd Tryz.f4 4),[],⟨[(0,Ly l),(2,.lit (.int .i64 st)),(3,.lit (.int .i64 many)),(5,.ptr 0 0),(9,.lit (.bool (sI l l.length)))],[(0,.box 31 [Dh p.names,Fg p.homes,Eu p.acts])],1,168⟩⟩:=by
     intro hsm
     have hpm:Aa3 l:=λi=>⟨(Nat.lt_or_ge i l.length).elim (λg9=>uO (hz i).1 (hsm i g9)) (λg9=>by rw[Γ,List.getElem?_eq_none g9];exact⟨δ,δ,λ_=>(show (0:Nat)<=64 by decide)⟩),(hz i).2.1,(hz i).2.2.1,(hz i).2.2.2⟩
     cases hgd:sI l l.length with
     |false=>
       have t20:Go Tryz.prog none B D0 (QF Tryz.prog B D0 Tryz.f4 (.bool true)) ⟨.code (oH (Jd Tryz.f4 6)),[.seq (fR 1 (Jd Tryz.f4 6))],⟨[(0,Ly l),(2,.lit (.int .i64 st)),(5,.ptr 0 0),(9,.lit (.bool false)),(11,.lit (.int .i64 0)),(12,.lit (.int .i64 2))],[(0,.box 31 [Dh p.names,Fg p.homes,Eu p.acts])],1,168⟩⟩:=by
         refine Ae 26 (Su hT Fi ?_)
         exact Ae 6 (Ck)
       exact Ae 5 (Ao (Td l p st hpm hp ω (λg9=>by have h8:=AaL g9.1;rw[hgd] at h8;cases h8)) (Ae 8 (Lc [0,2,3,5,9,11,12] [(0,0)] 1 0 hA0 [] trivial (copies _ _ _ t20))))
     |true=>
       have hall:=AgQ hgd
       cases h:De p with
       |false=>
         have t20:Go Tryz.prog none B D0 (QF Tryz.prog B D0 Tryz.f4 (.bool true)) ⟨.code (oH (Jd Tryz.f4 6)),[.seq (fR 1 (Jd Tryz.f4 6))],⟨[(0,Ly l),(2,.lit (.int .i64 st)),(5,.ptr 0 0),(9,.lit (.bool true)),(11,.lit (.int .i64 0)),(12,.lit (.int .i64 2))],[(0,.box 31 [Dh p.names,Fg p.homes,Eu p.acts])],1,168⟩⟩:=by
           refine Ae 6 (Ao (Zj hp h) (Ae 19 (Su hT Fi ?_)))
           exact Ae 6 (Ck)
         exact Ae 5 (Ao (Td l p st hpm hp ω (λg9=>by have h8:=g9.2.1;rw[h] at h8;cases h8)) (Ae 8 (Lc [0,2,3,5,9,11,12] [(0,0)] 1 0 hA0 [] trivial (copies _ _ _ t20))))
       |true=>
         by_cases hs:0<=st/\st<=86400000
         ·
           have ho:=Od h
           have hpn:=ho.n1
           by_cases hk:p.acts.length=0
           ·
            skip
            have t20:Go Tryz.prog none B D0 (QF Tryz.prog B D0 Tryz.f4 (.bool true)) ⟨.code (oH (Jd Tryz.f4 6)),[.seq (fR 1 (Jd Tryz.f4 6))],⟨[(0,Ly l),(2,.lit (.int .i64 st)),(5,.ptr 0 0),(9,.lit (.bool true)),(11,.lit (.int .i64 0)),(12,.lit (.int .i64 9))],[(0,.box 31 [Dh p.names,Fg p.homes,Eu p.acts])],1,168⟩⟩:=by
             refine Ae 6 (Ao (Zj hp h) (Ae 4 (Ao (Aas hs) (Ae 14 (Sv 0 (Ae 9 (Gp 124 ((0:Int)<(l.length:Int)) (λhx101 hx101d=>?_) (λhx101 hx101d=>?_))))))))
             ·
              refine Ae 12 (Jb 130 (decide ((p.acts.length:Int)=0)) true (decide_eq_true ω) (Ae 12 (Su hT Fi ?_)))
              exact Ae 11 (Ck)
             ·
              refine Ae 15 (Su hT Fi ?_)
              exact Ae 5 (Ck)
            exact Ae 5 (Ao (mS l p st hpm hp ω hall h hs hk) (Ae 8 (Lc [0,2,3,5,9,11,12] [(0,0)] 1 0 hA0 [] trivial (copies _ _ _ t20))))
           ·
            obtain⟨m,hm,hb0,he0⟩:=AaJ (λj=>decide ((oP (l.getD j Pm.none) p st).length=0)) l.length
            have hb:∀j,j<m->(oP (l.getD j Pm.none) p st).length≠0:=λj hj=>of_decide_eq_false (hb0 j hj)
            have he:m<l.length->(oP (l.getD m Pm.none) p st).length=0:=λhj=>of_decide_eq_true (he0 hj)
            have t20:Go Tryz.prog none B D0 (QF Tryz.prog B D0 Tryz.f4 (.bool true)) ⟨.code (oH (Jd Tryz.f4 6)),[.seq (fR 1 (Jd Tryz.f4 6))],⟨[(0,Ly l),(2,.lit (.int .i64 st)),(5,.ptr 0 0),(9,.lit (.bool true)),(11,.lit (.int .i64 (fdN l.length m))),(12,.lit (.int .i64 (fdE l.length m)))],[(0,.box 31 [Dh p.names,Fg p.homes,Eu p.acts])],1,168⟩⟩:=by
             refine Ae 6 (Ao (Zj hp h) (Ae 4 (Ao (Aas hs) (Ae 14 (Uz [0,2,5,11,12,17] l.length (λi=>i<=m) (λi=>⟨[(0,Ly l),(2,.int st),(5,.ptr 0 0),(11,.int (fdN l.length m)),(12,.int (fdE l.length m)),(17,.int (i:Int))],[(0,.box 31 [Dh p.names,Fg p.homes,Eu p.acts])],1,168⟩) Ω (λi hin hFi J1 hJ1=>?_))))))
             refine Ae 9 (Gp 124 ((i:Int)<(l.length:Int)) (λhx101 hx101d=>?_) (λhx101 hx101d=>?_))
             ·
              refine Ae 12 (Jb 130 (decide ((p.acts.length:Int)=0)) false (decide_eq_false ω) (Ae 6 (Cp [(2,Cw (Ly l) i,.none),(6,_,.none)] [0,2,5,11,12,17,148] ⟨Jn i l.length,Be (qO (l.getD i Pm.none) p st (hpm i) hp AaO h hs ω),trivial⟩ (Ae 1 (Gp 148 (((oP (l.getD i Pm.none) p st).length:Int)=0) (λhx102 hx102d=>?_) (λhx102 hx102d=>?_))))))
              ·
               refine Ae 6 (Jb 151 (decide ((fdN l.length m)=(i:Int))) true (decide_eq_true ((nY (n:=l.length) (m:=m) (i:=i) ((Nat.lt_or_ge i m).elim (λg9=>absurd ω (hb i g9)) (λg9=>by omega)) ω).1)) (Ae 3 (Jb 154 (decide ((fdE l.length m)=0)) true (decide_eq_true ((nY (n:=l.length) (m:=m) (i:=i) ((Nat.lt_or_ge i m).elim (λg9=>absurd ω (hb i g9)) (λg9=>by omega)) ω).2)) (Ae 2 (Su hT Fi ?_)))))
               exact Ae 10 (Ck)
              ·
               exact Ae 6 (Cv ((i:Int)+1) ((i+1:Nat):Int) (Ae 2 (qA [0,2,5,11,12,17] (hJ1 ω (by have h9:¬i=m:=λe9=>(by subst e9;have:=he ω;omega);omega)))))
             ·
              refine Ae 10 (Jb 160 (decide ((fdN l.length m)=0)) true (decide_eq_true ((AaI ω).1)) (Ae 3 (Jb 163 (decide ((fdE l.length m)=9)) true (decide_eq_true ((AaI ω).2)) (Ae 2 (Su hT Fi ?_)))))
              exact Ae 5 (Ck)
            exact Ae 5 (Ao (wA l p st hpm hp ω hall h hs AaO ω m hm hb he) (Ae 8 (Lc [0,2,3,5,9,11,12] [(0,0)] 1 0 hA0 [] trivial (copies _ _ _ t20))))
         ·
           skip
           have t20:Go Tryz.prog none B D0 (QF Tryz.prog B D0 Tryz.f4 (.bool true)) ⟨.code (oH (Jd Tryz.f4 6)),[.seq (fR 1 (Jd Tryz.f4 6))],⟨[(0,Ly l),(2,.lit (.int .i64 st)),(5,.ptr 0 0),(9,.lit (.bool true)),(11,.lit (.int .i64 0)),(12,.lit (.int .i64 2))],[(0,.box 31 [Dh p.names,Fg p.homes,Eu p.acts])],1,168⟩⟩:=by
            refine Ae 6 (Ao (Zj hp h) (Ae 4 (Ao (Ajl hs) (Ae 14 (Su hT Fi ?_)))))
            exact Ae 6 (Ck)
           exact Ae 5 (Ao (Td l p st hpm hp ω (λg9=>hs g9.2.2)) (Ae 8 (Lc [0,2,3,5,9,11,12] [(0,0)] 1 0 hA0 [] trivial (copies _ _ _ t20))))
   refine Ae 10 (Ao (mR p _ hfw) (Ae 5 (Jb 24 (decide ((4:Int)<(l.length:Int))) false (decide_eq_false ω) (Ae 18 (Uz [0,2,3,5,9,10] l.length (λi=>∀q,q<i->gB (Ya (l.getD q Pm.none).area)=true) (λi=>⟨[(0,Ly l),(2,.int st),(3,.int many),(5,.ptr 0 0),(9,.bool (sI l i)),(10,.int (i:Int))],[(0,.box 31 [Dh p.names,Fg p.homes,Eu p.acts])],1,168⟩) (λq hq=>absurd hq (Nat.not_lt_zero q)) (λi hin hFi J1 hJ1=>?_))))))
   refine Ae 9 (Gp 30 ((i:Int)<(l.length:Int)) (λhx101 hx101d=>?_) (λhx101 hx101d=>?_))
   ·
    refine Ae 10 (Gu i l.length (Ae 2 (Ao (AbP (l.getD i Pm.none).area) (Ae 3 (cI 39 (gB (Ya (l.getD i Pm.none).area)) (λhx102=>?_) (λhx102=>?_))))))
    ·
     refine Ae 6 (vsb 42 (sI l i) (λhx103=>?_) (λhx103=>?_))
     ·
      refine Ae 2 (Gu i l.length (Ae 1 (Ao (qP (l.getD i Pm.none) ⟨uO (hz i).1 hx102,(hz i).2.1,(hz i).2.2.1,(hz i).2.2.2⟩) (Ae 7 (Cv ((i:Int)+1) ((i+1:Nat):Int) (Ae 2 (Ai7 9 (.bool (jD (l.getD i Pm.none))) (.bool (sI l (i+1))) (AlR (congrArg AV.bool (Ao6 hx103))) ?_)))))))
      exact qA [0,2,3,5,9,10] (hJ1 ω (λq hq=>(Nat.lt_or_ge q i).elim (hFi q) λg9=>by(obtain rfl:q=i:=(ω));exact hx102))
     ·
      refine Ae 12 (Cv ((i:Int)+1) ((i+1:Nat):Int) (Ae 2 (Ai7 9 (.bool false) (.bool (sI l (i+1))) (AlR (congrArg AV.bool (Ao5 hx103))) ?_)))
      exact qA [0,2,3,5,9,10] (hJ1 ω (λq hq=>(Nat.lt_or_ge q i).elim (hFi q) λg9=>by(obtain rfl:q=i:=(ω));exact hx102))
    ·
     refine Ae 3 (Su hT Fi ?_)
     exact Ae 10 (Ck)
   ·
    refine Ae 6 ?_
    have hie:i=l.length:=by omega
    subst hie
    exact Lc [0,2,3,5,9] [(0,0)] 1 0 hA0 [] trivial (tail10 λq hq=>hFi q ω)
  ·
   skip
   refine Wm Ks func4 rfl λB D0 hA0 hT=>?_
   refine Ae 10 (Ao (mR p _ hfw) (Ae 5 (Jb 24 (decide ((4:Int)<(l.length:Int))) true (decide_eq_true ω) (Ae 6 (Su hT Fi ?_)))))
   exact Ae 5 (Ck)
end Go.Proofs.YtihcpmmopejpoaaGreatDoor
namespace Go.Proofs.YtihcpmmopejpoaaGreatDoor.Open
open Go.ChangeShapes Go.WideShapes Go.ChangeAt Go.RowKit Go.Deep
section
variable {H:Type} {enc:TypeId×Value->H} {W:World}
def nG (W:World) (x:AV) (v:Value):Prop:=∀E:Ar,E.w=W->(∀b,b<W.heap.size->E.D b)->VR E x v
theorem Abn {a0:Option Addr} {l0 c0 fuel:Nat} {y:DataW H×List MemPlace} (h:DataW.trod enc Tryz.prog W 0 (λ_=>true) true fuel 22 [.slice a0 l0 c0]=some y):∃l:Vs,nG W (Cd l) (.slice a0 l0 c0):=by
 obtain⟨lh,g1,g2,g3,_⟩:=Kv Tryz.underlying22 Age δ h
 obtain⟨Hm,H1,H2⟩:=dC (cells:=λv:V3=>[.int .i64 v.x,.int .i64 v.y,.int .i64 v.z]) lh (λcs hc=>by obtain⟨hl,n,y,ht⟩:=g2 cs hc;exact fX hl ht)
 have hL:Hm.length=l0:=by omega
 subst hL
 have g3':Bq W 0 W.heap.size 3 (.slice a0 Hm.length c0) Hm.length (Ja Hm):=by unfold Ja;rw[<-H2];exact g3
 exact⟨⟨Hm.length,λi=>Hm.getD i V3.zero⟩,λE hw hD=>Ab6 g3' hw λb hb=>hD b hb.2⟩
theorem sE:∀(l:List (List Value)) (_:∀cs∈l,cs.length=1) (i:Nat),i<l.length->l.flatten.getD (i*1+0) undef=(l.getD i []).getD 0 undef
 |[],_,i,h=>absurd h (Nat.not_lt_zero i)
 |cs::l,h,0,_=>by
  match cs,h cs (by simp) with
  |[a],_=>rfl
 |cs::l,h,i+1,hi=>by
  have ih:=sE l (λc hc=>h c (by simp[hc])) i (by simpa using hi)
  match cs,h cs (by simp) with
  |[a],_=>simpa using ih
end
end Go.Proofs.YtihcpmmopejpoaaGreatDoor.Open
namespace Go.Proofs.YtihcpmmopejpoaaGreatDoor.Open
open Go.ChangeShapes Go.WideShapes Go.ChangeAt Go.RowKit Go.Deep
theorem AjN:Tryz.prog.cellsOf 25=4:=κ
theorem Agd:Tryz.prog.cellsOf 27=7:=κ
theorem AjP:Tryz.prog.cellsOf 22=1:=κ
theorem Agf:Tryz.prog.cellsOf 23=1:=κ
section
variable {H:Type} {enc:TypeId×Value->H} {W:World}
theorem tV {cs:List Value} {n:Nat} {y:DataW H×List MemPlace} (hl:cs.length=4) (h:DataW.trod enc Tryz.prog W 0 (λ_=>true) true n 25 cs=some y):
  ∃(f:Mi) (v0 v1:Value),cs=[v0,v1,.int .i64 f.low,.int .i64 f.high]/\(∀i,f.hn<=i->(f.h i).n=0)/\nG W (Cd f.o) v0/\nG W (hsA f) v1:=by
 match cs,hl with
 |[v0,v1,v2,v3],_=>
  obtain⟨m0,z0,h0⟩:=Cs (ty:=22) (off:=0) Tryz.underlying25 h 0 (by rfl)
  obtain⟨m1,z1,h1⟩:=Cs (ty:=23) (off:=1) Tryz.underlying25 h 1 (by rfl)
  obtain⟨m2,z2,h2⟩:=Cs (ty:=3) (off:=2) Tryz.underlying25 h 2 (by rfl)
  obtain⟨m3,z3,h3⟩:=Cs (ty:=3) (off:=3) Tryz.underlying25 h 3 (by rfl)
  simp only[rS,AjP,Agf] at h0 h1 h2 h3
  obtain⟨a0,l0,c0,e0⟩:=Go.Joins.slice_form Tryz.underlying22 h0
  obtain rfl:v0= .slice a0 l0 c0:=by simpa using e0
  obtain⟨a1,l1,c1,e1⟩:=Go.Joins.slice_form Tryz.underlying23 h1
  obtain rfl:v1= .slice a1 l1 c1:=by simpa using e1
  obtain⟨k2,e2,f2⟩:=Hq h2
  obtain rfl:v2= .int .i64 k2:=by simpa using e2
  obtain⟨k3,e3,f3⟩:=Hq h3
  obtain rfl:v3= .int .i64 k3:=by simpa using e3
  obtain⟨o,ho⟩:=Abn h0
  obtain⟨lh,g1,g2,g3,_⟩:=Kv Tryz.underlying23 Amv δ h1
  have hk:∀i,∃q:Vs,(i<l1->nG W (Cd q) (lh.flatten.getD (i*1+0) undef))/\(l1<=i->q.n=0):=λi=>by
   by_cases hi:i<l1
   have hi':i<lh.length:=by omega
   obtain⟨hl,m,y,ht⟩:=g2 lh[i] (List.getElem_mem hi')
   obtain⟨a,c,k,e⟩:=Go.Joins.slice_form Tryz.underlying22 ht
   rw[e] at ht
   obtain⟨q,hq⟩:=Abn ht
   refine⟨q,λ_=>?_,λh=>absurd hi ω⟩
   rw[sE lh (λcs hc=>(g2 cs hc).1) i hi',Γ (l:=lh),List.getElem?_eq_getElem hi',Option.getD_some,e]
   exact hq
   exact⟨⟨0,λ_=>V3.zero⟩,λh=>absurd h hi,λ_=>rfl⟩
  obtain⟨hh,hhs⟩:=Classical.axiomOfChoice hk
  exact⟨⟨o,l1,hh,k2,k3⟩,_,_,rfl,λi hi=>(hhs i).2 hi,ho,λE hw hD=>Le g3 hw (λb hb=>hD b hb.2) λi j hi hj=>by
   obtain rfl:j=0:=by omega
   exact(hhs i).1 hi E.fz hw hD⟩
theorem AhG {cs:List Value} {n:Nat} {y:DataW H×List MemPlace} (hl:cs.length=7) (h:DataW.trod enc Tryz.prog W 0 (λ_=>true) true n 27 cs=some y):
  ∃(x:Pm) (v0 v1:Value),cs=[v0,v1,.int .i64 x.area.low,.int .i64 x.area.high,.int .i64 x.fr,.int .i64 x.til,.int .i64 x.craft]/\((∀i,x.area.hn<=i->(x.area.h i).n=0)/\Cj x.fr/\Cj x.til/\Cj x.craft)/\nG W (Cd x.area.o) v0/\nG W (hsA x.area) v1:=by
 match cs,hl with
 |[v0,v1,v2,v3,v4,v5,v6],_=>
  obtain⟨m0,z0,h0⟩:=Cs (ty:=25) (off:=0) Tryz.underlying27 h 0 (by rfl)
  obtain⟨m1,z1,h1⟩:=Cs (ty:=3) (off:=4) Tryz.underlying27 h 1 (by rfl)
  obtain⟨m2,z2,h2⟩:=Cs (ty:=3) (off:=5) Tryz.underlying27 h 2 (by rfl)
  obtain⟨m3,z3,h3⟩:=Cs (ty:=3) (off:=6) Tryz.underlying27 h 3 (by rfl)
  simp only[rS,AjN] at h0 h1 h2 h3
  obtain⟨f,w0,w1,e0,hz,t0,t1⟩:=tV (by rfl) h0
  obtain⟨k1,e1,f1⟩:=Hq h1
  obtain⟨k2,e2,f2⟩:=Hq h2
  obtain⟨k3,e3,f3⟩:=Hq h3
  simp at e0 e1 e2 e3
  obtain⟨rfl,rfl,rfl,rfl⟩:=e0
  subst e1 e2 e3
  exact⟨⟨f,k1,k2,k3⟩,_,_,rfl,⟨hz,f1,f2,f3⟩,t0,t1⟩
end
end Go.Proofs.YtihcpmmopejpoaaGreatDoor.Open
namespace Go.Proofs.YtihcpmmopejpoaaGreatDoor
open Go.RowKit
namespace Open
open Go.ChangeShapes Go.WideShapes Go.ChangeAt Go.RowKit Go.Deep
theorem AgH (e:Nat):∀(l:List (List Value)) (_:∀cs∈l,cs.length=e) (i j:Nat),i<l.length->j<e->l.flatten.getD (i*e+j) undef=(l.getD i []).getD j undef
 |[],_,i,_,h,_=>absurd h (Nat.not_lt_zero i)
 |cs::l,h,0,j,_,hj=>by
  have hc:=h cs (by simp)
  simp only[Γ,List.flatten_cons,Nat.zero_mul,Nat.zero_add]
  rw[List.getElem?_append_left ω]
  rfl
 |cs::l,h,i+1,j,hi,hj=>by
  have hc:=h cs (by simp)
  have ih:=AgH e l (λc hc=>h c (by simp[hc])) i j (by simpa using hi) hj
  have he:(i+1)*e+j=cs.length+(i*e+j):=by rw[Nat.succ_mul];omega
  simp only[Γ,List.flatten_cons] at ih ⊢
  rw[he,List.getElem?_append_right ω,Nat.add_sub_cancel_left,ih]
  rfl
section
variable {H:Type} {enc:TypeId×Value->H} {W:World}
theorem open_permits {v:Value} {d:DataW H} {p:List MemPlace} {base:Nat} (hv:Value.okWide Tryz.prog W .any base 45 v) (h:DataW.Trod enc Tryz.prog W 0 (λ_=>true) true 45 v d p):
  ∃l:List Pm,(∀i,Amj (l.getD i Pm.none))/\l.length<=maxLen/\nG W (Ly l) v:=by
 obtain⟨a0,l0,c0,rfl⟩:=okWide_slice Tryz.underlying45 hv
 obtain⟨fuel,hf⟩:=h
 obtain⟨lh,g1,g2,g3,g4⟩:=Kv Tryz.underlying45 Agd δ (show DataW.trod enc Tryz.prog W 0 (λ_=>true) true fuel 45 [.slice a0 l0 c0]=some (d,p) by simpa [Value.cells] using hf)
 have hk:∀i,∃x:Pm,Amj x/\(i<l0->∃v0 v1,lh.getD i []=[v0,v1,.int .i64 x.area.low,.int .i64 x.area.high,.int .i64 x.fr,.int .i64 x.til,.int .i64 x.craft]/\nG W (Cd x.area.o) v0/\nG W (hsA x.area) v1):=λi=>by
  by_cases hi:i<l0
  have hi':i<lh.length:=by omega
  obtain⟨hl,m,y,ht⟩:=g2 lh[i] (List.getElem_mem hi')
  obtain⟨x,v0,v1,e,hz,t0,t1⟩:=AhG hl ht
  refine⟨x,hz,λ_=>⟨v0,v1,?_,t0,t1⟩⟩
  rw[Γ,List.getElem?_eq_getElem hi',Option.getD_some,e]
  exact⟨Pm.none,⟨λ_ _=>rfl,Jm,Jm,Jm⟩,λh=>absurd h hi⟩
 obtain⟨hh,hhs⟩:=Classical.axiomOfChoice hk
 have hat:∀i,i<l0->((List.range l0).map hh).getD i Pm.none=hh i:=λi hi=>by
  rw[Γ,List.getElem?_map,List.getElem?_range hi]
  rfl
 refine⟨(List.range l0).map hh,λi=>?_,by rw[List.length_map,List.length_range];omega,λE hw hD=>?_⟩
 by_cases hi:i<l0
 rw[hat i hi];exact(hhs i).1
 rw[Γ,List.getElem?_eq_none (by simp;omega)]
 exact⟨λ_ _=>rfl,Jm,Jm,Jm⟩
 have hlen:((List.range l0).map hh).length=l0:=by simp
 show VR E (.sl 7 ((List.range l0).map hh).length λi=>Fk (((List.range l0).map hh).getD i Pm.none)) _
 rw[hlen]
 refine Le g3 hw (λb hb=>hD b hb.2) λi j hi hj=>?_
 obtain⟨v0,v1,e,t0,t1⟩:=(hhs i).2 hi
 rw[hat i hi,AgH 7 lh (λcs hc=>(g2 cs hc).1) i j ω hj,e]
 match j,hj with
 |0,_=>exact t0 E.fz hw hD
 |1,_=>exact t1 E.fz hw hD
 |2,_=>exact .lit _ _
 |3,_=>exact .lit _ _
 |4,_=>exact .lit _ _
 |5,_=>exact .lit _ _
 |6,_=>exact .lit _ _
end
end Open
end Go.Proofs.YtihcpmmopejpoaaGreatDoor