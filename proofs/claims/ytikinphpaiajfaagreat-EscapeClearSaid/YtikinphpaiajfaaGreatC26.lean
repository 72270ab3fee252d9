/- Part 26 of the proof of EC.row_holds, joined by program: no condition beyond the row's own. -/
import Derived.Test.YtikinphpaiajfaaGreatC25
set_option maxRecDepth 100000
set_option maxHeartbeats 40000000
namespace Go.Proofs.YtikinphpaiajfaaGreat
open Go.Proofs.Tryz
open Go.RowKit
theorem gL (e:Int) (p:Sq) (l:Vs) (h0:l.n<=64):∃v:Value×Int,mE Tryz.prog 150 219 [.int .i64 e] [.int .i64 v.2] [(224,[.lit (.bool p.u.neg),.lit (.string p.u.mag),.lit (.bool p.v.neg),.lit (.string p.v.mag),.lit (.bool p.w.neg),.lit (.string p.w.mag)])] [Dj l,.ptr 0 0,.ptr 1 0] (Ht [.one .i] v.1):=by
 refine Pu (Kx func150 rfl ?_)
 exact Ae 9 (Exists.elim (Aag e l p ω) λv1 hv1=>(gs (Bi (.int (gI v1.1)) (.setr [] 0 (.box 219 [.int v1.2])) (Bg (.func 151) 151 #[.tmp 1,.tmp 5,.tmp 6] #[219,23,224] κ [] κ (λ_ _=>by kernel_rfl) 0 [] κ 219 [.int .i64 e] [.int .i64 v1.2] κ [] κ [] κ [.ptr 0 0,Dj l,sqA p] κ (.int .i64 (gI v1.1)) hv1) ·) (Ae 4 (Re (.int .i64 (gI v1.1)) [.int .i64 v1.2] ⟨rfl,_,rfl⟩))))
theorem Ag3 (e:Int) (p:Sq) (l:Vs) (h0:l.n<=64):∃v:Value×Int,mE Tryz.prog 189 219 [.int .i64 e] [.int .i64 v.2] [(224,[.lit (.bool p.u.neg),.lit (.string p.u.mag),.lit (.bool p.v.neg),.lit (.string p.v.mag),.lit (.bool p.w.neg),.lit (.string p.w.mag)]),(228,[.fn 150 [.ptr 0 0,.ptr 1 0]])] [Dj l,.ptr 2 0] (Ht [.one .b] v.1):=by
 refine Pu (Kx func189 rfl ?_)
 exact Ae 9 (Exists.elim (gL e p l ω) λv1 hv1=>(gs (Bi (.int (gI v1.1)) (.setr [1] 0 (.box 219 [.int v1.2])) (Bg (.tmp 4) 150 #[.tmp 5] #[23] κ [.ptr 0 0,.ptr 1 0] κ (λ_ _=>by kernel_rfl) 0 [1] κ 219 [.int .i64 e] [.int .i64 v1.2] κ [(224,[.bool p.u.neg,.lit (.string p.u.mag),.bool p.v.neg,.lit (.string p.v.mag),.bool p.w.neg,.lit (.string p.w.mag)])] κ [(224,[.bool p.u.neg,.lit (.string p.u.mag),.bool p.v.neg,.lit (.string p.v.mag),.bool p.w.neg,.lit (.string p.w.mag)])] κ [Dj l,.ptr 0 0,.ptr 1 0] κ (.int .i64 (gI v1.1)) hv1) ·) (Ae 5 (Re (.bool (decide ((0:Int)<(gI v1.1)))) [.int .i64 v1.2] ⟨rfl,_,rfl⟩))))
theorem Ag0 (e:Int) (p:Sq) (f:Ja) (h0:Ty f):∃v:Value×Int,mE Tryz.prog 188 219 [.int .i64 e] [.int .i64 v.2] [(224,[.lit (.bool p.u.neg),.lit (.string p.u.mag),.lit (.bool p.v.neg),.lit (.string p.v.mag),.lit (.bool p.w.neg),.lit (.string p.w.mag)]),(228,[.fn 150 [.ptr 0 0,.ptr 1 0]])] [hsA f,.fn 189 [.ptr 2 0]] (Ht [.one .b] v.1):=by
 refine Pu ?_
 have hn8:=h0.1
 have hn9:=h0.2.1
 refine Kx func188 rfl ?_
 refine Ae 9 (mH func214 (Ae 14 (Vy [0,1,7,8] (λm s=>∃q qe,m=f.hn-q/\(q<=f.hn)/\s=⟨[(0,hsA f),(1,.fn 189 [.ptr 2 0]),(7,.int (f.hn:Int)),(8,.int (q:Int))],[(0,.box 219 [.int qe]),(1,.box 224 [.bool p.u.neg,.lit (.string p.u.mag),.bool p.v.neg,.lit (.string p.v.mag),.bool p.w.neg,.lit (.string p.w.mag)]),(2,.box 228 [.fn 150 [.ptr 0 0,.ptr 1 0]])],3,19⟩) (f.hn-0) ⟨0,e,rfl,Nat.zero_le _,κ⟩ ?_)))
 rintro _ _ ⟨q,qe,rfl,hF,rfl⟩ hJ1
 have hnq:=h0.2.2 q
 refine Ae 6 (Jf 9 ((q:Int)<(f.hn:Int)) (λhx2 hx2d=>?_) (λhx2 hx2d=>?_))
 refine Ae 16 (gs (Iz q f.hn ·) (Ae 1 (Exists.elim (Ag3 qe p (f.h q) ω) λv3 hv3=>(gs (Bi (.bool (gB v3.1)) (.setr [1,2] 0 (.box 219 [.int v3.2])) (Bg (.tmp 11) 189 #[.tmp 15] #[23] κ [.ptr 2 0] κ (λ_ _=>by kernel_rfl) 0 [1,2] κ 219 [.int .i64 qe] [.int .i64 v3.2] κ [(224,[.bool p.u.neg,.lit (.string p.u.mag),.bool p.v.neg,.lit (.string p.v.mag),.bool p.w.neg,.lit (.string p.w.mag)]),(228,[.fn 150 [.ptr 0 0,.ptr 1 0]])] κ [(224,[.bool p.u.neg,.lit (.string p.u.mag),.bool p.v.neg,.lit (.string p.v.mag),.bool p.w.neg,.lit (.string p.w.mag)]),(228,[.fn 150 [.ptr 0 0,.ptr 1 0]])] κ [Dj (f.h q),.ptr 2 0] κ (.bool (gB v3.1)) hv3) ·) (Ae 2 (Ff 16 ?_ ?_))))))
 exact Ae 13 (Kl (Ae 5 (Re (.bool (decide ((0:Int)<=(q:Int)))) [.int .i64 v3.2] ⟨rfl,_,rfl⟩)))
 exact Ae 5 (gs (Dm ((q:Int)+1) ((q+1:Nat):Int) ·) (Ae 2 (qS [0,1,7,8] (hJ1 _ _ (by omega:f.hn-(q+1)<f.hn-q) ⟨q+1,v3.2,rfl,ω,rfl⟩))))
 exact Ae 12 (Kl (Ae 5 (Re (.bool false) [.int .i64 qe] ⟨rfl,_,rfl⟩)))
theorem sO (e:Int) (p:Sq) (f:Ja) (h0:Ty f):∃v:Value×Int,mE Tryz.prog 149 219 [.int .i64 e] [.int .i64 v.2] [(224,[.lit (.bool p.u.neg),.lit (.string p.u.mag),.lit (.bool p.v.neg),.lit (.string p.v.mag),.lit (.bool p.w.neg),.lit (.string p.w.mag)])] [Rp f,.fn 150 [.ptr 0 0,.ptr 1 0]] (Ht [.one .b] v.1):=by
 refine Pu ?_
 have hn8:=h0.1
 have hn9:=h0.2.1
 refine Kx func149 rfl ?_
 refine Ae 12 (Exists.elim (gL e p f.o ω) λv1 hv1=>(gs (Bi (.int (gI v1.1)) (.setr [1] 0 (.box 219 [.int v1.2])) (Bg (.tmp 5) 150 #[.tmp 7] #[23] κ [.ptr 0 0,.ptr 1 0] κ (λ_ _=>by kernel_rfl) 0 [1] κ 219 [.int .i64 e] [.int .i64 v1.2] κ [(224,[.bool p.u.neg,.lit (.string p.u.mag),.bool p.v.neg,.lit (.string p.v.mag),.bool p.w.neg,.lit (.string p.w.mag)])] κ [(224,[.bool p.u.neg,.lit (.string p.u.mag),.bool p.v.neg,.lit (.string p.v.mag),.bool p.w.neg,.lit (.string p.w.mag)])] κ [Dj f.o,.ptr 0 0,.ptr 1 0] κ (.int .i64 (gI v1.1)) hv1) ·) (Ae 2 (Ff 10 ?_ ?_))))
 exact Ae 3 (Exists.elim (Ag0 v1.2 p f h0) λv3 hv3=>(gs (Bi (.bool (gB v3.1)) (.setr [1,3] 0 (.box 219 [.int v3.2])) (Bg (.func 188) 188 #[.tmp 12,.tmp 13] #[31,70] κ [] κ (λ_ _=>by kernel_rfl) 0 [1,3] κ 219 [.int .i64 v1.2] [.int .i64 v3.2] κ [(224,[.bool p.u.neg,.lit (.string p.u.mag),.bool p.v.neg,.lit (.string p.v.mag),.bool p.w.neg,.lit (.string p.w.mag)]),(228,[.fn 150 [.ptr 0 0,.ptr 1 0]])] κ [(224,[.bool p.u.neg,.lit (.string p.u.mag),.bool p.v.neg,.lit (.string p.v.mag),.bool p.w.neg,.lit (.string p.w.mag)]),(228,[.fn 150 [.ptr 0 0,.ptr 1 0]])] κ [hsA f,.fn 189 [.ptr 2 0]] κ (.bool (gB v3.1)) hv3) ·) (Ae 6 (Re (.bool (!(gB v3.1))) [.int .i64 v3.2] ⟨rfl,_,rfl⟩))))
 exact Ae 10 (Re (.bool false) [.int .i64 v1.2] ⟨rfl,_,rfl⟩)
theorem AcV (l:Vs) (h0:l.n<=64):∃r,Gm [.one .i] r/\AF Tryz.prog 180 [Dj l] r:=by
 refine Cd func180 rfl ?_
 refine Ae 15 (mH func25 (Ae 13 (Kl (Ae 3 (gs (vnm [2,3,7] ·) (vC func52 λsp2 sp2p sp2a sp2b=>(Ae 8 (Vy [0,1,6,7,8] (λm s=>∃i iw,m=l.n-i/\(i<=l.n)/\s=⟨[(0,.yld 2),(1,.ptr 1 0),(6,Dj l),(7,.int (l.n:Int)),(8,.int (i:Int))],[(0,.box 3 [.int iw]),(1,.box 23 [Dj l]),(2,.loop .ready none sp2 [(2,.int 0),(3,.ptr 0 0),(7,.fn 52 [.ptr 1 0])] 24)],3,35⟩) (l.n-0) ⟨0,0,rfl,Nat.zero_le _,κ⟩ ?_))))))))
 rintro _ _ ⟨i,iw,rfl,hF,rfl⟩ hJ1
 refine Ae 6 (Jf 9 ((i:Int)<(l.n:Int)) (λhx4 hx4d=>?_) (λhx4 hx4d=>?_))
 refine Ae 8 (gs (Iz i l.n ·) (Ae 7 ?_))
 have hm4:=Nat.mod_lt (i+1) (by omega:0<l.n)
 refine gs (Dg [(2,.int ((i+1:Nat):Int),.none),(5,.int (((i+1)%l.n:Nat):Int),.none),(6,Dx (Dj l) ((i+1)%l.n),.none)] [0,1,4,5,6,7,8] ⟨As (Bb (v:= .int .i64 (IntKind.wrap .i64 ((i:Int)+1))) (v':= .int .i64 ((i+1:Nat):Int)) _ κ rfl κ (λw=>by kernel_rfl) (congrArg (Value.int .i64) ((IntWalk.i64_in _ ω).trans ω))),qE ((i+1:Nat):Int) (l.n:Int) (((i+1)%l.n:Nat):Int) ω rfl,Pc ((i+1)%l.n) l.n,trivial⟩ ·) (Ae 14 (vF sp2p sp2a (Ae 10 (vE sp2b ?_))))
 exact Ae 18 (Qc (Ae 8 (gs (Dm ((i:Int)+1) ((i+1:Nat):Int) ·) (Ae 2 (Hd [0,1,6,7,8] [(0,0),(1,1),(2,2)] 3 [] trivial (hJ1 _ _ (by omega:l.n-(i+1)<l.n-i) ⟨i+1,(Ai (iw+Ai (Ai (((l.f i).x)*((l.f ((i+1)%l.n)).y))-Ai (((l.f i).y)*((l.f ((i+1)%l.n)).x))))),rfl,ω,rfl⟩))))))
 exact Ae 5 (aF (Ae 9 (Bl)))
noncomputable def AiL (l:Vs):Value:=Kp 180 [.one .i] [Dj l]
theorem Acf (l:Vs) (h0:l.n<=64):AF Tryz.prog 180 [Dj l] (.lit (Ht [.one .i] (AiL l))):=Bv (AcV l h0)
end Go.Proofs.YtikinphpaiajfaaGreat
namespace Go.Proofs.YtikinphpaiajfaaGreat
open Go.RowKit
open Go.Sort hiding Below
def Ady (a b:Rw):Bool:=(a.neg==b.neg)&&(a.mag==b.mag)
def Aao (a b:Rr):Bool:=Ady a.num b.num&&Ady a.den b.den
theorem Aiq (a b:Rr) (w:World):(Op.equal 201 (.agg #[.bool a.num.neg,.string a.num.mag,.bool a.den.neg,.string a.den.mag]) (.agg #[.bool b.num.neg,.string b.num.mag,.bool b.den.neg,.string b.den.mag])).run Tryz.prog w= .ok (Aao a b) w:=by
 have e:∀(a b:Rw) (w:World),(Op.equalIn 9999 94 (.agg #[.bool a.neg,.string a.mag]) (.agg #[.bool b.neg,.string b.mag])).run Tryz.prog w= .ok (Ady a b) w:=λa b w=>yH a.neg b.neg a.mag b.mag w 9997
 have h93:=Tryz.runUnderlying201
 have h91:=Tryz.isAgg94
 have hs:=Tryz.sizeOf94
 have hin:Tryz.prog.stoodInHeld 201=false:=by kernel_rfl
 unfold Op.equal
 rw[show Op.maxDepth=9999+1 from rfl]
 unfold Op.equalIn
 simp[h93,part,h91,hs,e,hin]
 unfold Aao
 cases Ady a.num b.num<;>cases Ady a.den b.den<;>simp
instance:Inhabited V3:=⟨⟨0,0,0⟩⟩
def Adx (v:V3):List Value:=[.int .i64 v.x,.int .i64 v.y,.int .i64 v.z]
theorem Ace (d:Array V3) (hd:d.size<=9223372036854775807):AFW Tryz.prog 181 3 Adx d d.reverse []:=λblk off cap w hH hb=>by
 have h:=AnyQ.slices_Reverse Tryz.laysRev 3 (λw=>by kernel_rfl) (λw=>by kernel_rfl) Adx (λ_=>rfl) (λx v hv=>by
  unfold Adx at hv
  simp at hv
  rcases hv with rfl|rfl|rfl<;>rfl) blk off cap d w hH hd
 refine h.mono ?_
 rintro e w' ⟨rfl,n,rfl⟩
 exact⟨rfl,n,#[],by rw[grow_empty]⟩
def AeR (l:Vs):Vs:=⟨l.n,λk=>if k=0 then l.f 0 else l.f (l.n-k)⟩
def Uv (l:Vs):Array V3:=((List.range (l.n-1)).map λi=>l.f (1+i)).toArray
theorem Gh (l:Vs):(Uv l).size=l.n-1:=by simp[Uv]
theorem qR (l:Vs) (i:Nat) (hi:i<l.n-1):(Uv l)[i]! =l.f (1+i):=by
 rw[getElem!_pos _ i (by rw[Gh];exact hi)]
 simp[Uv]
theorem Ab3 (l:Vs) (i:Nat) (hi:i<l.n-1):(Uv l).reverse[i]! =(AeR l).f (1+i):=by
 rw[getElem!_pos _ i (by simp[Gh];exact hi)]
 rw[Array.getElem_reverse]
 have h1:(Uv l).size-1-i<l.n-1:=by rw[Gh];omega
 have h2:=qR l _ h1
 rw[getElem!_pos (Uv l) _ (by have:=Gh l;omega)] at h2
 rw[h2]
 show l.f _=if 1+i=0 then l.f 0 else l.f (l.n-(1+i))
 rw[if_neg ω,show 1+((Uv l).size-1-i)=l.n-(1+i) by rw[Gh];omega]
theorem jG (v:V3) (j:Nat) (hj:j<3):(Bs v).cell j= .lit ((Adx v)[j]!):=by
 match j,hj with
 |0,_=>rfl
 |1,_=>rfl
 |2,_=>rfl
theorem AeD {B:Nat} {D0:Bc} {o:Oper} {ev:Operand->AV} {pre:Nat->Option Bo} (x:Operand) (ts:Array TypeId) (id:Nat) (t:TypeId) (l:Vs) (hl:2<=l.n) (hn:l.n<=1000) (ho:o.op= .call { callee:= .value (.func 181),args:=#[x],argTypes:=ts }) (hp:pre id=some (.vec t 3 l.n λi=>Bs (l.f i))) (hx:ev x= .osw id 3 1 (l.n-1)):Ec Tryz.prog B D0 o ev pre (.lit (.tuple #[])) (.set id (.vec t 3 l.n λi=>Bs ((AeR l).f i))):=
 iS 181 #[x] ts ho (λ_ _=>by kernel_rfl) id 3 1 l.n t _ _ hp Adx (Uv l) (Uv l).reverse (by simp) (by rw[Gh];omega) (ev x) (by rw[hx,Gh];exact⟨rfl,rfl,rfl,rfl,ω⟩) [] [] rfl rfl (λi hi=>absurd hi (Nat.not_lt_zero i))
  (λi j hi hj=>by rw[Gh] at hi;rw[qR l i hi];exact jG _ j hj)
  (λi _ h=>by
   rw[Gh] at h
   obtain rfl:i=0:=by omega
   rfl)
  (λi j hi hj=>by rw[Gh] at hi;rw[Ab3 l i hi];exact jG _ j hj)
  (Ace _ (by rw[Gh];omega))
def dK (g:Nat->RQ) (n:Nat):Array RQ:=((List.range n).map g).toArray
theorem Kw (g:Nat->RQ) (n:Nat):(dK g n).size=n:=by simp[dK]
theorem Aem (g:Nat->RQ) {n i:Nat} (hi:i<n):(dK g n)[i]! =g i:=by
 rw[getElem!_pos _ i (by rw[Kw];exact hi)]
 simp[dK]
noncomputable def Je (g:Nat->RQ) (n:Nat):Nat->RQ:=λi=>(yM (dK g n))[i]!
theorem qI (v:RQ) (j:Nat) (hj:j<4):(Cz v.1).cell j= .lit ((oG v)[j]!):=by
 match j,hj with
 |0,_=>rfl
 |1,_=>rfl
 |2,_=>rfl
 |3,_=>rfl
theorem AaU {B:Nat} {D0:Bc} {o:Oper} {ev:Operand->AV} {pre:Nat->Option Bo} (x y:Operand) (ts:Array TypeId) (id:Nat) (t:TypeId) (n:Nat) (g:Nat->RQ) (hn:n<=1000000) (ho:o.op= .call { callee:= .value (.func 141),args:=#[x,y],argTypes:=ts }) (hp:pre id=some (.vec t 4 n λi=>Cz (g i).1)) (hx:ev x= .osl id 4 n) (hy:ev y= .fn 139 []):Ec Tryz.prog B D0 o ev pre (.lit (.tuple #[])) (.set id (.vec t 4 n λi=>Cz (Je g n i).1)):=
 iS 141 #[x,y] ts ho (λ_ _=>by kernel_rfl) id 4 0 n t _ _ hp oG (dK g n) (yM (dK g n)) (uW _) (by rw[Kw];omega) (ev x) (by rw[hx,Kw];exact⟨rfl,rfl,rfl,rfl⟩) [ev y] [.func (.func 139) #[] #[]] rfl rfl (λi hi E v h=>by
   obtain rfl:i=0:=by simp at hi;exact hi
   have h:VR E (ev y) v:=h
   rw[hy] at h
   cases h with
   |fn _ _ _ vs hn _=>
    have:vs=#[]:=Array.eq_empty_of_size_eq_zero hn
    rw[this];rfl)
  (λi j hi hj=>by rw[Kw] at hi;rw[Aem g hi,Nat.zero_add];exact qI _ j hj)
  (λi h1 h=>by rw[Kw] at h;omega)
  (λi j hi hj=>by rw[Nat.zero_add];exact qI _ j hj)
  (yT _ (by rw[Kw];omega))
end Go.Proofs.YtikinphpaiajfaaGreat
namespace Go.Proofs.YtikinphpaiajfaaGreat
open Go.Proofs.Tryz
open Go.RowKit
theorem Pa (n:Int): -9223372036854775808<=Ai n:=by simp[Ai,IntKind.wrap,IntKind.bits,IntKind.signed];omega
theorem Oz (n:Int):Ai n<=9223372036854775807:=by simp[Ai,IntKind.wrap,IntKind.bits,IntKind.signed];omega
theorem Aat {f:Ja} (h0:Ty f) (h:gB (Gt f)=true) (k:Nat) (hk:k<f.hn+1):3<=(Cm f k).n:=by
 have:=(Nu (iB f h0)).2 (congrArg AV.bool h)
 cases k with
 |zero=>exact this.1
 |succ k=>exact this.2 k ω
def Gy (g:Nat->RQ) (n:Nat) (v:RQ):Nat->RQ:=λk=>if k<n then g k else v
theorem Tn {g:Nat->RQ} {n i:Nat} {v:RQ} (h:i<n):Gy g n v i=g i:=if_pos h
theorem Tm (g:Nat->RQ) (n:Nat) (v:RQ):Gy g n v (n+0)=v:=if_neg ω
theorem Abf:Uo ⟨⟨decide ((1:Int)<0),Dd 1⟩,⟨decide ((1:Int)<0),Dd 1⟩⟩:=⟨1,1,Gi δ δ,Gi δ δ,δ,rfl⟩
def AjL (g:Nat->RQ) (i:Nat) (v:RQ):Nat->RQ:=λk=>if k=i then v else g k
def Aj6 (k:Nat):RQ:=if k=0 then ⟨_,dY⟩ else ⟨_,Abf⟩
theorem Aaz (f:Ja) (a b:V3) (h0:Ty f):∃r,Gm [.one .b,.one .i] r/\AF Tryz.prog 111 [Rp f,Bs a,Bs b] r:=by
 have hfok:=h0
 have hn8:=h0.1
 have hn9:=h0.2.1
 refine Cd func111 rfl ?_
 refine Ae 13 (gs (Aw (Ir f hfok) ·) (Ae 2 (Afk 24 (gB (Gt f)) (λhx1=>?_) (λhx1=>?_))))
 refine Ae 1 (gs (Aw (Gb a) ·) (Ae 3 (Ff 29 ?_ ?_)))
 exact Ae 15 (Bl)
 refine Ae 1 (gs (Aw (Gb b) ·) (Ae 4 (Ff 33 ?_ ?_)))
 exact Ae 9 (Bl)
 refine Ae 8 (Eh (bG f a h0) λv3 hv3=>(gs (Aw hv3 ·) (Ae 2 (Ff 38 ?_ ?_))))
 exact Ae 16 (Bl)
 refine Ae 2 (Eh (bG f b h0) λv5 hv5=>(gs (Aw hv5 ·) (Ae 4 (Ff 43 ?_ ?_))))
 exact Ae 9 (Bl)
 refine Ae 12 (tsh 8 49 false [3,4,5,6,7,55] ?_ (λhS6=>?_))
 refine Ae 5 (gs (Aw (Hk 1 δ δ) ·) (Ae 11 (gs (Bi (.osl 4 4 2) (.new 4 (.vec 201 4 2 (λxi=>[.lit (.agg #[.bool false,.string ⟨#[]⟩,.bool (decide ((1:Int)<0)),.string (Dd (1:Int).natAbs)]),.lit (.agg #[.bool (decide ((1:Int)<0)),.string (Dd (1:Int).natAbs),.bool (decide ((1:Int)<0)),.string (Dd (1:Int).natAbs)])].getD xi .top))) (Au 211 2 #[(0,(.tmp 58)),(1,(.tmp 61))] κ underlying211 4 sizeOf201 _ zeroValue201 κ β β β 4 [.bool false,.lit (.string ⟨#[]⟩),.bool (decide ((1:Int)<0)),.lit (.string (Dd (1:Int).natAbs)),.bool (decide ((1:Int)<0)),.lit (.string (Dd (1:Int).natAbs)),.bool (decide ((1:Int)<0)),.lit (.string (Dd (1:Int).natAbs))] κ (λxi=>[.lit (.agg #[.bool false,.string ⟨#[]⟩,.bool (decide ((1:Int)<0)),.string (Dd (1:Int).natAbs)]),.lit (.agg #[.bool (decide ((1:Int)<0)),.string (Dd (1:Int).natAbs),.bool (decide ((1:Int)<0)),.string (Dd (1:Int).natAbs)])].getD xi .top) κ) ·) (Ae 5 (gs (vvx 4 201 4 2 (λxi=>[.lit (.agg #[.bool false,.string ⟨#[]⟩,.bool (decide ((1:Int)<0)),.string (Dd (1:Int).natAbs)]),.lit (.agg #[.bool (decide ((1:Int)<0)),.string (Dd (1:Int).natAbs),.bool (decide ((1:Int)<0)),.string (Dd (1:Int).natAbs)])].getD xi .top) (λxi=>Cz (Aj6 xi).1) (λx9 hx9=>by(match x9,hx9 with|0,_=>rfl|1,_=>rfl|_+2,h=>exact absurd h ω)) ·) ?_)))))
 have hV:=Aat h0 hx1
 refine Ae 3 (mH func137 (Ae 13 (Kl (Ae 3 (gs (vnm [3,4,5,6,7,8,9,64] ·) (vC func179 λsp8 sp8p sp8a sp8b=>(Ae 9 (gs (Aw (Ir f hfok) ·) (Ae 3 (eW 9 (!(gB (Gt f))) false (nt hx1) (Ae 7 (gs (Bi (.osl 9 1 1) (.new 9 (.vec 23 1 1 (λ_=>Dj f.o))) (Au 31 1 #[(0,(.tmp 11))] κ underlying31 1 sizeOf23 _ zeroValue23 κ β β β 9 [Dj f.o] κ (λ_=>Dj f.o) κ) ·) (Ae 2 (gs (Bi (.osl 10 1 (1+f.hn)) (.grow 9 10 (.vec 23 1 (1+f.hn) (λxi=>Dj (Cm f xi)))) (dQ (.tmp 12) (.tmp 14) 31 κ underlying31 1 24 (.slice none 0 0) κ κ δ sizeOf23 1 f.hn (λ_=>Dj f.o) (λi0=>Dj (f.h i0)) (λxi=>Dj (Cm f xi)) 10 ω (by unfold maxLen;omega) (λi hi=>by(obtain rfl:i=0:=(ω));rfl) (λi hi=>by rw[Nat.add_comm];rfl) (λi hi j hj=>by obtain rfl:j=0:=(ω);rfl) 9 κ κ κ) ·) (Ae 5 (tfg [2,15,16,17] [(0,0),(1,1),(2,2),(3,3),(4,11),(5,5),(6,6),(7,7),(8,8),(10,10)] 12 [(201,4,2,(λxi=>Cz (Aj6 xi).1)),(23,1,1+f.hn,(λxi=>Dj (Cm f xi)))] ⟨(Fe λ_ _=>rfl),(Fe λ_ _=>rfl),trivial⟩ (Vy [2,15,16,17] (λm s=>∃(i n:Nat) (g:Nat->RQ),m=f.hn+1-i/\(n<=2+128*i/\i<=f.hn+1)/\s=⟨[(2,.ptr 8 0),(15,.osl 10 1 (1+f.hn)),(16,.int ((1+f.hn:Nat):Int)),(17,.int (i:Int))],[(0,.box 33 [Dj f.o,hsA f,.int f.low,.int f.high]),(1,.box 62 [.int a.x,.int a.y,.int a.z]),(2,.box 62 [.int b.x,.int b.y,.int b.z]),(3,.box 94 [.bool (decide ((1:Int)<0)),.lit (.string (Dd (1:Int).natAbs))]),(11,.vec 201 4 n (λxi=>Cz (g xi).1)),(5,.box 211 [.osl 11 4 n]),(6,.box 33 [Dj f.o,hsA f,.int f.low,.int f.high]),(7,.loop .ready none sp8 [(3,.ptr 0 0),(4,.ptr 1 0),(5,.ptr 2 0),(6,.bool false),(7,.int 0),(8,.ptr 3 0),(9,.ptr 5 0),(64,.fn 179 [.ptr 6 0])] 131),(8,.box 112 [.yld 7]),(10,.vec 23 1 (1+f.hn) (λxi=>Dj (Cm f xi)))],12,43⟩) (f.hn+1-0) ⟨0,2,Aj6,rfl,⟨ω,ω⟩,κ⟩ ?_)))))))))))))))))
 rintro _ _ ⟨i,n,g,rfl,hF,rfl⟩ hJ1
 have hn1:=wJ h0 i
 have hn7:=hV 0 ω
 have hn6:(Cm f 0).n=f.o.n:=rfl
 refine Ae 6 (Jf 18 ((i:Int)<((1+f.hn:Nat):Int)) (λhx10 hx10d=>?_) (λhx10 hx10d=>?_))
 refine Ae 5 ?_
 have hn3:=hV i ω
 refine Ae 3 (gs (Iz i (1+f.hn) ·) (gs (Bi (Dj (Cm f i)) (.read 10) (Ox 23 (.tmp 20) κ isAgg23 10 i 0 1 κ 23 (1+f.hn) (λxi=>Dj (Cm f xi)) κ ω δ) ·) (Ae 8 (Eh (Acf (Cm f i) ω) λv11 hv11=>(gs (Aw hv11 ·) (Ae 3 (gs (Mm (.bool (!decide (decide ((0:Int)<(gI v11))=decide ((i:Int)=0)))) (.bool (!decide (decide ((0:Int)<(gI v11))=decide ((i:Int)=0)))) ·) (Ae 2 (tjv 3 27 false (λl9:Vs=>⟨[(2,.ptr 8 0),(4,Dj l9),(15,.osl 10 1 (1+f.hn)),(16,.int ((1+f.hn:Nat):Int)),(17,.int (i:Int))],[(0,.box 33 [Dj f.o,hsA f,.int f.low,.int f.high]),(1,.box 62 [.int a.x,.int a.y,.int a.z]),(2,.box 62 [.int b.x,.int b.y,.int b.z]),(3,.box 94 [.bool (decide ((1:Int)<0)),.lit (.string (Dd (1:Int).natAbs))]),(11,.vec 201 4 n (λxi=>Cz (g xi).1)),(5,.box 211 [.osl 11 4 n]),(6,.box 33 [Dj f.o,hsA f,.int f.low,.int f.high]),(7,.loop .ready none sp8 [(3,.ptr 0 0),(4,.ptr 1 0),(5,.ptr 2 0),(6,.bool false),(7,.int 0),(8,.ptr 3 0),(9,.ptr 5 0),(64,.fn 179 [.ptr 6 0])] 131),(8,.box 112 [.yld 7]),(10,.vec 23 1 (1+f.hn) (λxi=>Dj (Cm f xi)))],12,43⟩) (λl9=>l9.n<=64/\3<=l9.n) (λl9 hl9=>?_) (λhJ9=>?_))))))))))
 have hl8:l9.n<=64/\3<=l9.n:=hl9
 refine Ae 3 (mH func25 (Ae 13 (Kl (Ae 3 (gs (vnm [2,15,16,17,34] ·) (vC func52 λsp13 sp13p sp13a sp13b=>(Ae 8 (tfg [0,1,6,7,8] [(0,0),(1,1),(2,2),(3,3),(11,14),(5,5),(6,6),(7,7),(8,8),(10,10),(12,12),(13,13)] 15 [(201,4,n,(λxi=>Cz (g xi).1)),(23,1,1+f.hn,(λxi=>Dj (Cm f xi)))] ⟨(Fe λ_ _=>rfl),(Fe λ_ _=>rfl),trivial⟩ (Vy [0,1,6,7,8] (λm s=>∃(j3 j3n:Nat) (j3g:Nat->RQ),m=l9.n-j3/\(j3n<=2+128*i+2*j3/\j3<=l9.n)/\s=⟨[(0,.yld 13),(1,.ptr 12 0),(6,Dj l9),(7,.int ((l9.n:Nat):Int)),(8,.int ((j3:Nat):Int))],[(0,.box 33 [Dj f.o,hsA f,.int f.low,.int f.high]),(1,.box 62 [.int a.x,.int a.y,.int a.z]),(2,.box 62 [.int b.x,.int b.y,.int b.z]),(3,.box 94 [.bool (decide ((1:Int)<0)),.lit (.string (Dd (1:Int).natAbs))]),(14,.vec 201 4 j3n (λxi=>Cz (j3g xi).1)),(5,.box 211 [.osl 14 4 j3n]),(6,.box 33 [Dj f.o,hsA f,.int f.low,.int f.high]),(7,.loop .ready none sp8 [(3,.ptr 0 0),(4,.ptr 1 0),(5,.ptr 2 0),(6,.bool false),(7,.int 0),(8,.ptr 3 0),(9,.ptr 5 0),(64,.fn 179 [.ptr 6 0])] 131),(8,.box 112 [.yld 7]),(10,.vec 23 1 (1+f.hn) (λxi=>Dj (Cm f xi))),(12,.box 23 [Dj l9]),(13,.loop .ready none sp13 [(2,.ptr 8 0),(15,.osl 10 1 (1+f.hn)),(16,.int ((1+f.hn:Nat):Int)),(17,.int (i:Int)),(34,.fn 52 [.ptr 12 0])] 43)],15,35⟩) (l9.n-0) ⟨0,n,g,rfl,⟨ω,ω⟩,κ⟩ ?_)))))))))
 rintro _ _ ⟨j3,j3n,j3g,rfl,hF,rfl⟩ hJ2
 refine Ae 6 (Jf 9 (((j3:Nat):Int)<((l9.n:Nat):Int)) (λhx15 hx15d=>?_) (λhx15 hx15d=>?_))
 refine Ae 8 (gs (Iz j3 l9.n ·) (Ae 7 ?_))
 have hm15:=Nat.mod_lt (j3+1) (by omega:0<l9.n)
 refine gs (Dg [(2,.int ((j3+1:Nat):Int),.none),(5,.int (((j3+1)%l9.n:Nat):Int),.none),(6,Dx (Dj l9) ((j3+1)%l9.n),.none)] [0,1,4,5,6,7,8] ⟨As (Bb (v:= .int .i64 (IntKind.wrap .i64 (((j3:Nat):Int)+1))) (v':= .int .i64 ((j3+1:Nat):Int)) _ κ rfl κ (λw=>by kernel_rfl) (congrArg (Value.int .i64) ((IntWalk.i64_in _ ω).trans ω))),qE ((j3+1:Nat):Int) ((l9.n:Nat):Int) (((j3+1)%l9.n:Nat):Int) ω rfl,Pc ((j3+1)%l9.n) l9.n,trivial⟩ ·) (Ae 14 (vF sp13p sp13a (Ae 10 (vE sp13b ?_))))
 refine Ae 6 (vF sp8p sp8a (Ae 10 (vE sp8b ?_)))
 refine Ae 7 (mH func138 (Ae 17 (gs (Dg [] [5,6,7,8,9,11,12,13] trivial ·) (Ae 28 (Ff 42 ?_ ?_)))))
 refine Ae 29 (gs (Bi (.osl 26 2 1) (.new 26 (.vec 255 2 1 (λ_=> .lit (.agg #[.int .i64 (Ai (Ai ((Ai ((l9.f j3).x-a.x))*(Ai ((l9.f ((j3+1)%l9.n)).y-(l9.f j3).y)))-Ai ((Ai ((l9.f j3).y-a.y))*(Ai ((l9.f ((j3+1)%l9.n)).x-(l9.f j3).x))))),.int .i64 (Ai (Ai ((Ai (b.x-a.x))*(Ai ((l9.f ((j3+1)%l9.n)).y-(l9.f j3).y)))-Ai ((Ai (b.y-a.y))*(Ai ((l9.f ((j3+1)%l9.n)).x-(l9.f j3).x)))))])))) (Au 254 1 #[(0,(.tmp 68))] κ underlying254 2 sizeOf255 _ zeroValue255 κ β β β 26 [.int (Ai (Ai ((Ai ((l9.f j3).x-a.x))*(Ai ((l9.f ((j3+1)%l9.n)).y-(l9.f j3).y)))-Ai ((Ai ((l9.f j3).y-a.y))*(Ai ((l9.f ((j3+1)%l9.n)).x-(l9.f j3).x))))),.int (Ai (Ai ((Ai (b.x-a.x))*(Ai ((l9.f ((j3+1)%l9.n)).y-(l9.f j3).y)))-Ai ((Ai (b.y-a.y))*(Ai ((l9.f ((j3+1)%l9.n)).x-(l9.f j3).x)))))] κ (λ_=> .lit (.agg #[.int .i64 (Ai (Ai ((Ai ((l9.f j3).x-a.x))*(Ai ((l9.f ((j3+1)%l9.n)).y-(l9.f j3).y)))-Ai ((Ai ((l9.f j3).y-a.y))*(Ai ((l9.f ((j3+1)%l9.n)).x-(l9.f j3).x))))),.int .i64 (Ai (Ai ((Ai (b.x-a.x))*(Ai ((l9.f ((j3+1)%l9.n)).y-(l9.f j3).y)))-Ai ((Ai (b.y-a.y))*(Ai ((l9.f ((j3+1)%l9.n)).x-(l9.f j3).x)))))])) κ) ·) (Afh func182 (Ae 8 (gs (vul 3 ·) (Ae 13 (gs (Iz 0 1 ·) (gs (Bi (.lit (.agg #[.int .i64 (Ai (Ai ((Ai ((l9.f j3).x-a.x))*(Ai ((l9.f ((j3+1)%l9.n)).y-(l9.f j3).y)))-Ai ((Ai ((l9.f j3).y-a.y))*(Ai ((l9.f ((j3+1)%l9.n)).x-(l9.f j3).x))))),.int .i64 (Ai (Ai ((Ai (b.x-a.x))*(Ai ((l9.f ((j3+1)%l9.n)).y-(l9.f j3).y)))-Ai ((Ai (b.y-a.y))*(Ai ((l9.f ((j3+1)%l9.n)).x-(l9.f j3).x)))))])) (.read 26) (Bz 255 (.tmp 11) κ isAgg255 2 sizeOf255 26 0 κ 255 1 (λ_=> .lit (.agg #[.int .i64 (Ai (Ai ((Ai ((l9.f j3).x-a.x))*(Ai ((l9.f ((j3+1)%l9.n)).y-(l9.f j3).y)))-Ai ((Ai ((l9.f j3).y-a.y))*(Ai ((l9.f ((j3+1)%l9.n)).x-(l9.f j3).x))))),.int .i64 (Ai (Ai ((Ai (b.x-a.x))*(Ai ((l9.f ((j3+1)%l9.n)).y-(l9.f j3).y)))-Ai ((Ai (b.y-a.y))*(Ai ((l9.f ((j3+1)%l9.n)).x-(l9.f j3).x)))))])) κ ω) ·) (Ae 6 (gs (Bi (.ptr 27 0) .none (Ao 255 (.tmp 4) (.const (.int .i64 0)) κ underlying255 27 0 1 0 0 κ κ sizeOf3 δ ω δ) ·) (Ae 1 (gs (Bi (.ptr 27 1) .none (Ao 255 (.tmp 4) (.const (.int .i64 1)) κ underlying255 27 0 1 1 1 κ κ sizeOf3 δ ω δ) ·) (Ae 1 (Exists.elim (dZ (Ai (Ai ((Ai ((l9.f j3).x-a.x))*(Ai ((l9.f ((j3+1)%l9.n)).y-(l9.f j3).y)))-Ai ((Ai ((l9.f j3).y-a.y))*(Ai ((l9.f ((j3+1)%l9.n)).x-(l9.f j3).x))))) (Ai (Ai ((Ai (b.x-a.x))*(Ai ((l9.f ((j3+1)%l9.n)).y-(l9.f j3).y)))-Ai ((Ai (b.y-a.y))*(Ai ((l9.f ((j3+1)%l9.n)).x-(l9.f j3).x))))) (Pa (Ai ((Ai ((l9.f j3).x-a.x))*(Ai ((l9.f ((j3+1)%l9.n)).y-(l9.f j3).y)))-Ai ((Ai ((l9.f j3).y-a.y))*(Ai ((l9.f ((j3+1)%l9.n)).x-(l9.f j3).x))))) (Oz (Ai ((Ai ((l9.f j3).x-a.x))*(Ai ((l9.f ((j3+1)%l9.n)).y-(l9.f j3).y)))-Ai ((Ai ((l9.f j3).y-a.y))*(Ai ((l9.f ((j3+1)%l9.n)).x-(l9.f j3).x))))) (Pa (Ai ((Ai (b.x-a.x))*(Ai ((l9.f ((j3+1)%l9.n)).y-(l9.f j3).y)))-Ai ((Ai (b.y-a.y))*(Ai ((l9.f ((j3+1)%l9.n)).x-(l9.f j3).x))))) (Oz (Ai ((Ai (b.x-a.x))*(Ai ((l9.f ((j3+1)%l9.n)).y-(l9.f j3).y)))-Ai ((Ai (b.y-a.y))*(Ai ((l9.f ((j3+1)%l9.n)).x-(l9.f j3).x)))))) λv21 hv21=>(gs (Aw hv21.2 ·) (Ae 13 (Jf 23 (v21.2=0) (λhx22 hx22d=>?_) (λhx22 hx22d=>?_)))))))))))))))))
 refine Ae 2 (Eh (Iw v21.1.num) λv23 hv23=>(gs (Aw hv23 ·) (Ae 3 (tsh 9 29 false [1,5,7,8,9,36] ?_ (λhS24=>?_)))))
 exact Ae 20 (Kl (Ae 10 (Kl (Ae 3 (Qc (Ae 6 (Qc (Ae 8 (gs (Dm (((j3:Nat):Int)+1) ((j3+1:Nat):Int) ·) (Ae 2 (Hd [0,1,6,7,8] [(0,0),(1,1),(2,2),(3,3),(14,14),(5,5),(6,6),(7,7),(8,8),(10,10),(12,12),(13,13)] 15 [(201,4,j3n,(λxi=>Cz (j3g xi).1)),(23,1,1+f.hn,(λxi=>Dj (Cm f xi))),(255,2,1,(λ_=> .lit (.agg #[.int .i64 (Ai (Ai ((Ai ((l9.f j3).x-a.x))*(Ai ((l9.f ((j3+1)%l9.n)).y-(l9.f j3).y)))-Ai ((Ai ((l9.f j3).y-a.y))*(Ai ((l9.f ((j3+1)%l9.n)).x-(l9.f j3).x))))),.int .i64 (Ai (Ai ((Ai (b.x-a.x))*(Ai ((l9.f ((j3+1)%l9.n)).y-(l9.f j3).y)))-Ai ((Ai (b.y-a.y))*(Ai ((l9.f ((j3+1)%l9.n)).x-(l9.f j3).x)))))])))] ⟨(Fe λ_ _=>rfl),(Fe λ_ _=>rfl),(Fe λ_ _=>rfl),trivial⟩ (hJ2 _ _ (by omega:l9.n-(j3+1)<l9.n-j3) ⟨j3+1,j3n,j3g,rfl,⟨ω,ω⟩,rfl⟩))))))))))))
 refine Ff 29 ?_ ?_
 refine Ae 4 (Eh (Sd v21.1.num v21.1.den) λv25 hv25=>(gs (Aw hv25 ·) (Ae 4 (Ff 36 ?_ ?_))))
 exact Ae 4 (gs (Bi (.osl 29 4 1) (.new 29 (.vec 201 4 1 (λ_=>Cz v21.1))) (Au 211 1 #[(0,(.tmp 38))] κ underlying211 4 sizeOf201 _ zeroValue201 κ β β β 29 [.bool v21.1.num.neg,.lit (.string v21.1.num.mag),.bool v21.1.den.neg,.lit (.string v21.1.den.mag)] κ (λ_=>Cz v21.1) κ) ·) (gs (Bi (.osl 30 4 (j3n+1)) (.grow2 14 29 30 (.vec 201 4 (j3n+1) (λxi=>Cz (Gy j3g j3n ⟨v21.1,hv21.1 (of_decide_eq_true hx22)⟩ xi).1))) (Em (.tmp 37) (.tmp 39) 211 κ underlying211 4 48 (.agg #[.bool false,.string ⟨#[]⟩,.bool false,.string ⟨#[]⟩]) κ κ δ j3n 1 ω (λxi=>Cz (j3g xi).1) (λ_=>Cz v21.1) (λxi=>Cz (Gy j3g j3n ⟨v21.1,hv21.1 (of_decide_eq_true hx22)⟩ xi).1) 30 ω (by unfold maxLen;omega) (λi hi=>by rw[Tn hi]) (λi hi=>by(obtain rfl:i=0:=(ω));rw[Tm]) (λi hi j hj=>match j,hj with|0,_=>rfl|1,_=>rfl|2,_=>rfl|3,_=>rfl|_+4,h=>absurd h ω) 14 κ κ 29 201 κ κ) ·) (Ae 20 (Kl (Ae 10 (Kl (Ae 3 (Qc (Ae 6 (Qc (Ae 8 (gs (Dm (((j3:Nat):Int)+1) ((j3+1:Nat):Int) ·) (Ae 2 (Hd [0,1,6,7,8] [(0,0),(1,1),(2,2),(3,3),(30,14),(5,5),(6,6),(7,7),(8,8),(10,10),(12,12),(13,13)] 15 [(23,1,1+f.hn,(λxi=>Dj (Cm f xi))),(255,2,1,(λ_=> .lit (.agg #[.int .i64 (Ai (Ai ((Ai ((l9.f j3).x-a.x))*(Ai ((l9.f ((j3+1)%l9.n)).y-(l9.f j3).y)))-Ai ((Ai ((l9.f j3).y-a.y))*(Ai ((l9.f ((j3+1)%l9.n)).x-(l9.f j3).x))))),.int .i64 (Ai (Ai ((Ai (b.x-a.x))*(Ai ((l9.f ((j3+1)%l9.n)).y-(l9.f j3).y)))-Ai ((Ai (b.y-a.y))*(Ai ((l9.f ((j3+1)%l9.n)).x-(l9.f j3).x)))))]))),(201,4,1,(λ_=>Cz v21.1)),(201,4,j3n+1,(λxi=>Cz (Gy j3g j3n ⟨v21.1,hv21.1 (of_decide_eq_true hx22)⟩ xi).1))] ⟨(Fe λ_ _=>rfl),(Fe λ_ _=>rfl),(Fe λ_ _=>rfl),(Fe λ_ _=>rfl),trivial⟩ (hJ2 _ _ (by omega:l9.n-(j3+1)<l9.n-j3) ⟨j3+1,j3n+1,Gy j3g j3n ⟨v21.1,hv21.1 (of_decide_eq_true hx22)⟩,rfl,⟨ω,ω⟩,rfl⟩)))))))))))))))
 exact Uh [1,5,7,8,9,36] hS24
 exact Ae 9 (Uh [1,5,7,8,9,36] hS24)
 exact Ae 35 (Kl (Ae 10 (Kl (Ae 3 (Qc (Ae 6 (Qc (Ae 8 (gs (Dm (((j3:Nat):Int)+1) ((j3+1:Nat):Int) ·) (Ae 2 (Hd [0,1,6,7,8] [(0,0),(1,1),(2,2),(3,3),(14,14),(5,5),(6,6),(7,7),(8,8),(10,10),(12,12),(13,13)] 15 [(201,4,j3n,(λxi=>Cz (j3g xi).1)),(23,1,1+f.hn,(λxi=>Dj (Cm f xi))),(255,2,1,(λ_=> .lit (.agg #[.int .i64 (Ai (Ai ((Ai ((l9.f j3).x-a.x))*(Ai ((l9.f ((j3+1)%l9.n)).y-(l9.f j3).y)))-Ai ((Ai ((l9.f j3).y-a.y))*(Ai ((l9.f ((j3+1)%l9.n)).x-(l9.f j3).x))))),.int .i64 (Ai (Ai ((Ai (b.x-a.x))*(Ai ((l9.f ((j3+1)%l9.n)).y-(l9.f j3).y)))-Ai ((Ai (b.y-a.y))*(Ai ((l9.f ((j3+1)%l9.n)).x-(l9.f j3).x)))))])))] ⟨(Fe λ_ _=>rfl),(Fe λ_ _=>rfl),(Fe λ_ _=>rfl),trivial⟩ (hJ2 _ _ (by omega:l9.n-(j3+1)<l9.n-j3) ⟨j3+1,j3n,j3g,rfl,⟨ω,ω⟩,rfl⟩))))))))))))
 refine Ae 9 (Eh (Mt a b (⟨(l9.f j3).x,(l9.f j3).y,0⟩)) λv26 hv26=>(gs (Aw hv26 ·) (Ae 3 (Ff 76 ?_ ?_))))
 refine Ae 49 (gs (Bi (.osl 26 2 2) (.new 26 (.vec 255 2 2 (λxi=>[.lit (.agg #[.int .i64 (Ai (Ai ((Ai (b.x-a.x))*(Ai ((l9.f j3).x-a.x)))+Ai ((Ai (b.y-a.y))*(Ai ((l9.f j3).y-a.y))))),.int .i64 (Ai (Ai ((Ai (b.x-a.x))*(Ai (b.x-a.x)))+Ai ((Ai (b.y-a.y))*(Ai (b.y-a.y)))))]),.lit (.agg #[.int .i64 (Ai (Ai ((Ai (b.x-a.x))*(Ai ((l9.f ((j3+1)%l9.n)).x-a.x)))+Ai ((Ai (b.y-a.y))*(Ai ((l9.f ((j3+1)%l9.n)).y-a.y))))),.int .i64 (Ai (Ai ((Ai (b.x-a.x))*(Ai (b.x-a.x)))+Ai ((Ai (b.y-a.y))*(Ai (b.y-a.y)))))])].getD xi .top))) (Au 254 2 #[(0,(.tmp 100)),(1,(.tmp 123))] κ underlying254 2 sizeOf255 _ zeroValue255 κ β β β 26 [.int (Ai (Ai ((Ai (b.x-a.x))*(Ai ((l9.f j3).x-a.x)))+Ai ((Ai (b.y-a.y))*(Ai ((l9.f j3).y-a.y))))),.int (Ai (Ai ((Ai (b.x-a.x))*(Ai (b.x-a.x)))+Ai ((Ai (b.y-a.y))*(Ai (b.y-a.y))))),.int (Ai (Ai ((Ai (b.x-a.x))*(Ai ((l9.f ((j3+1)%l9.n)).x-a.x)))+Ai ((Ai (b.y-a.y))*(Ai ((l9.f ((j3+1)%l9.n)).y-a.y))))),.int (Ai (Ai ((Ai (b.x-a.x))*(Ai (b.x-a.x)))+Ai ((Ai (b.y-a.y))*(Ai (b.y-a.y)))))] κ (λxi=>[.lit (.agg #[.int .i64 (Ai (Ai ((Ai (b.x-a.x))*(Ai ((l9.f j3).x-a.x)))+Ai ((Ai (b.y-a.y))*(Ai ((l9.f j3).y-a.y))))),.int .i64 (Ai (Ai ((Ai (b.x-a.x))*(Ai (b.x-a.x)))+Ai ((Ai (b.y-a.y))*(Ai (b.y-a.y)))))]),.lit (.agg #[.int .i64 (Ai (Ai ((Ai (b.x-a.x))*(Ai ((l9.f ((j3+1)%l9.n)).x-a.x)))+Ai ((Ai (b.y-a.y))*(Ai ((l9.f ((j3+1)%l9.n)).y-a.y))))),.int .i64 (Ai (Ai ((Ai (b.x-a.x))*(Ai (b.x-a.x)))+Ai ((Ai (b.y-a.y))*(Ai (b.y-a.y)))))])].getD xi .top) κ) ·) (Afh func182 (Ae 8 (gs (vul 3 ·) (Ae 13 (gs (Iz 0 2 ·) (gs (Bi (.lit (.agg #[.int .i64 (Ai (Ai ((Ai (b.x-a.x))*(Ai ((l9.f j3).x-a.x)))+Ai ((Ai (b.y-a.y))*(Ai ((l9.f j3).y-a.y))))),.int .i64 (Ai (Ai ((Ai (b.x-a.x))*(Ai (b.x-a.x)))+Ai ((Ai (b.y-a.y))*(Ai (b.y-a.y)))))])) (.read 26) (Bz 255 (.tmp 11) κ isAgg255 2 sizeOf255 26 0 κ 255 2 (λxi=>[.lit (.agg #[.int .i64 (Ai (Ai ((Ai (b.x-a.x))*(Ai ((l9.f j3).x-a.x)))+Ai ((Ai (b.y-a.y))*(Ai ((l9.f j3).y-a.y))))),.int .i64 (Ai (Ai ((Ai (b.x-a.x))*(Ai (b.x-a.x)))+Ai ((Ai (b.y-a.y))*(Ai (b.y-a.y)))))]),.lit (.agg #[.int .i64 (Ai (Ai ((Ai (b.x-a.x))*(Ai ((l9.f ((j3+1)%l9.n)).x-a.x)))+Ai ((Ai (b.y-a.y))*(Ai ((l9.f ((j3+1)%l9.n)).y-a.y))))),.int .i64 (Ai (Ai ((Ai (b.x-a.x))*(Ai (b.x-a.x)))+Ai ((Ai (b.y-a.y))*(Ai (b.y-a.y)))))])].getD xi .top) κ ω) ·) (Ae 6 (gs (Bi (.ptr 27 0) .none (Ao 255 (.tmp 4) (.const (.int .i64 0)) κ underlying255 27 0 1 0 0 κ κ sizeOf3 δ ω δ) ·) (Ae 1 (gs (Bi (.ptr 27 1) .none (Ao 255 (.tmp 4) (.const (.int .i64 1)) κ underlying255 27 0 1 1 1 κ κ sizeOf3 δ ω δ) ·) (Ae 1 (Exists.elim (dZ (Ai (Ai ((Ai (b.x-a.x))*(Ai ((l9.f j3).x-a.x)))+Ai ((Ai (b.y-a.y))*(Ai ((l9.f j3).y-a.y))))) (Ai (Ai ((Ai (b.x-a.x))*(Ai (b.x-a.x)))+Ai ((Ai (b.y-a.y))*(Ai (b.y-a.y))))) (Pa (Ai ((Ai (b.x-a.x))*(Ai ((l9.f j3).x-a.x)))+Ai ((Ai (b.y-a.y))*(Ai ((l9.f j3).y-a.y))))) (Oz (Ai ((Ai (b.x-a.x))*(Ai ((l9.f j3).x-a.x)))+Ai ((Ai (b.y-a.y))*(Ai ((l9.f j3).y-a.y))))) (Pa (Ai ((Ai (b.x-a.x))*(Ai (b.x-a.x)))+Ai ((Ai (b.y-a.y))*(Ai (b.y-a.y))))) (Oz (Ai ((Ai (b.x-a.x))*(Ai (b.x-a.x)))+Ai ((Ai (b.y-a.y))*(Ai (b.y-a.y)))))) λv28 hv28=>(gs (Aw hv28.2 ·) (Ae 13 (Jf 23 (v28.2=0) (λhx29 hx29d=>?_) (λhx29 hx29d=>?_)))))))))))))))))
 refine Ae 2 (Eh (Iw v28.1.num) λv30 hv30=>(gs (Aw hv30 ·) (Ae 3 (tsh 9 29 false [1,5,7,8,9,36] ?_ (λhS31=>?_)))))
 refine Ae 22 (gs (Iz 1 2 ·) (gs (Bi (.lit (.agg #[.int .i64 (Ai (Ai ((Ai (b.x-a.x))*(Ai ((l9.f ((j3+1)%l9.n)).x-a.x)))+Ai ((Ai (b.y-a.y))*(Ai ((l9.f ((j3+1)%l9.n)).y-a.y))))),.int .i64 (Ai (Ai ((Ai (b.x-a.x))*(Ai (b.x-a.x)))+Ai ((Ai (b.y-a.y))*(Ai (b.y-a.y)))))])) (.read 26) (Bz 255 (.tmp 11) κ isAgg255 2 sizeOf255 26 1 κ 255 2 (λxi=>[.lit (.agg #[.int .i64 (Ai (Ai ((Ai (b.x-a.x))*(Ai ((l9.f j3).x-a.x)))+Ai ((Ai (b.y-a.y))*(Ai ((l9.f j3).y-a.y))))),.int .i64 (Ai (Ai ((Ai (b.x-a.x))*(Ai (b.x-a.x)))+Ai ((Ai (b.y-a.y))*(Ai (b.y-a.y)))))]),.lit (.agg #[.int .i64 (Ai (Ai ((Ai (b.x-a.x))*(Ai ((l9.f ((j3+1)%l9.n)).x-a.x)))+Ai ((Ai (b.y-a.y))*(Ai ((l9.f ((j3+1)%l9.n)).y-a.y))))),.int .i64 (Ai (Ai ((Ai (b.x-a.x))*(Ai (b.x-a.x)))+Ai ((Ai (b.y-a.y))*(Ai (b.y-a.y)))))])].getD xi .top) κ ω) ·) (Ae 6 (gs (Bi (.ptr 29 0) .none (Ao 255 (.tmp 4) (.const (.int .i64 0)) κ underlying255 29 0 1 0 0 κ κ sizeOf3 δ ω δ) ·) (Ae 1 (gs (Bi (.ptr 29 1) .none (Ao 255 (.tmp 4) (.const (.int .i64 1)) κ underlying255 29 0 1 1 1 κ κ sizeOf3 δ ω δ) ·) (Ae 1 (Exists.elim (dZ (Ai (Ai ((Ai (b.x-a.x))*(Ai ((l9.f ((j3+1)%l9.n)).x-a.x)))+Ai ((Ai (b.y-a.y))*(Ai ((l9.f ((j3+1)%l9.n)).y-a.y))))) (Ai (Ai ((Ai (b.x-a.x))*(Ai (b.x-a.x)))+Ai ((Ai (b.y-a.y))*(Ai (b.y-a.y))))) (Pa (Ai ((Ai (b.x-a.x))*(Ai ((l9.f ((j3+1)%l9.n)).x-a.x)))+Ai ((Ai (b.y-a.y))*(Ai ((l9.f ((j3+1)%l9.n)).y-a.y))))) (Oz (Ai ((Ai (b.x-a.x))*(Ai ((l9.f ((j3+1)%l9.n)).x-a.x)))+Ai ((Ai (b.y-a.y))*(Ai ((l9.f ((j3+1)%l9.n)).y-a.y))))) (Pa (Ai ((Ai (b.x-a.x))*(Ai (b.x-a.x)))+Ai ((Ai (b.y-a.y))*(Ai (b.y-a.y))))) (Oz (Ai ((Ai (b.x-a.x))*(Ai (b.x-a.x)))+Ai ((Ai (b.y-a.y))*(Ai (b.y-a.y)))))) λv32 hv32=>(gs (Aw hv32.2 ·) (Ae 13 (Jf 23 (v32.2=0) (λhx33 hx33d=>?_) (λhx33 hx33d=>?_))))))))))))
 refine Ae 2 (Eh (Iw v32.1.num) λv34 hv34=>(gs (Aw hv34 ·) (Ae 3 (tsh 9 29 false [1,5,7,8,9,36] ?_ (λhS35=>?_)))))
 exact Ae 20 (Kl (Ae 9 (Kl (Ae 3 (Qc (Ae 6 (Qc (Ae 8 (gs (Dm (((j3:Nat):Int)+1) ((j3+1:Nat):Int) ·) (Ae 2 (Hd [0,1,6,7,8] [(0,0),(1,1),(2,2),(3,3),(14,14),(5,5),(6,6),(7,7),(8,8),(10,10),(12,12),(13,13)] 15 [(201,4,j3n,(λxi=>Cz (j3g xi).1)),(23,1,1+f.hn,(λxi=>Dj (Cm f xi))),(255,2,2,(λxi=>[.lit (.agg #[.int .i64 (Ai (Ai ((Ai (b.x-a.x))*(Ai ((l9.f j3).x-a.x)))+Ai ((Ai (b.y-a.y))*(Ai ((l9.f j3).y-a.y))))),.int .i64 (Ai (Ai ((Ai (b.x-a.x))*(Ai (b.x-a.x)))+Ai ((Ai (b.y-a.y))*(Ai (b.y-a.y)))))]),.lit (.agg #[.int .i64 (Ai (Ai ((Ai (b.x-a.x))*(Ai ((l9.f ((j3+1)%l9.n)).x-a.x)))+Ai ((Ai (b.y-a.y))*(Ai ((l9.f ((j3+1)%l9.n)).y-a.y))))),.int .i64 (Ai (Ai ((Ai (b.x-a.x))*(Ai (b.x-a.x)))+Ai ((Ai (b.y-a.y))*(Ai (b.y-a.y)))))])].getD xi .top))] ⟨(Fe λ_ _=>rfl),(Fe λ_ _=>rfl),(Fe λi hi=>by match i,hi with|0,_=>rfl|1,_=>rfl|_+2,h=>exact absurd h ω),trivial⟩ (hJ2 _ _ (by omega:l9.n-(j3+1)<l9.n-j3) ⟨j3+1,j3n,j3g,rfl,⟨ω,ω⟩,rfl⟩))))))))))))
 refine Ff 29 ?_ ?_
 refine Ae 4 (Eh (Sd v32.1.num v32.1.den) λv36 hv36=>(gs (Aw hv36 ·) (Ae 4 (Ff 36 ?_ ?_))))
 exact Ae 4 (gs (Bi (.osl 31 4 1) (.new 31 (.vec 201 4 1 (λ_=>Cz v32.1))) (Au 211 1 #[(0,(.tmp 38))] κ underlying211 4 sizeOf201 _ zeroValue201 κ β β β 31 [.bool v32.1.num.neg,.lit (.string v32.1.num.mag),.bool v32.1.den.neg,.lit (.string v32.1.den.mag)] κ (λ_=>Cz v32.1) κ) ·) (gs (Bi (.osl 32 4 (j3n+1)) (.grow2 14 31 32 (.vec 201 4 (j3n+1) (λxi=>Cz (Gy j3g j3n ⟨v32.1,hv32.1 (of_decide_eq_true hx33)⟩ xi).1))) (Em (.tmp 37) (.tmp 39) 211 κ underlying211 4 48 (.agg #[.bool false,.string ⟨#[]⟩,.bool false,.string ⟨#[]⟩]) κ κ δ j3n 1 ω (λxi=>Cz (j3g xi).1) (λ_=>Cz v32.1) (λxi=>Cz (Gy j3g j3n ⟨v32.1,hv32.1 (of_decide_eq_true hx33)⟩ xi).1) 32 ω (by unfold maxLen;omega) (λi hi=>by rw[Tn hi]) (λi hi=>by(obtain rfl:i=0:=(ω));rw[Tm]) (λi hi j hj=>match j,hj with|0,_=>rfl|1,_=>rfl|2,_=>rfl|3,_=>rfl|_+4,h=>absurd h ω) 14 κ κ 31 201 κ κ) ·) (Ae 20 (Kl (Ae 9 (Kl (Ae 3 (Qc (Ae 6 (Qc (Ae 8 (gs (Dm (((j3:Nat):Int)+1) ((j3+1:Nat):Int) ·) (Ae 2 (Hd [0,1,6,7,8] [(0,0),(1,1),(2,2),(3,3),(32,14),(5,5),(6,6),(7,7),(8,8),(10,10),(12,12),(13,13)] 15 [(23,1,1+f.hn,(λxi=>Dj (Cm f xi))),(255,2,2,(λxi=>[.lit (.agg #[.int .i64 (Ai (Ai ((Ai (b.x-a.x))*(Ai ((l9.f j3).x-a.x)))+Ai ((Ai (b.y-a.y))*(Ai ((l9.f j3).y-a.y))))),.int .i64 (Ai (Ai ((Ai (b.x-a.x))*(Ai (b.x-a.x)))+Ai ((Ai (b.y-a.y))*(Ai (b.y-a.y)))))]),.lit (.agg #[.int .i64 (Ai (Ai ((Ai (b.x-a.x))*(Ai ((l9.f ((j3+1)%l9.n)).x-a.x)))+Ai ((Ai (b.y-a.y))*(Ai ((l9.f ((j3+1)%l9.n)).y-a.y))))),.int .i64 (Ai (Ai ((Ai (b.x-a.x))*(Ai (b.x-a.x)))+Ai ((Ai (b.y-a.y))*(Ai (b.y-a.y)))))])].getD xi .top)),(201,4,1,(λ_=>Cz v32.1)),(201,4,j3n+1,(λxi=>Cz (Gy j3g j3n ⟨v32.1,hv32.1 (of_decide_eq_true hx33)⟩ xi).1))] ⟨(Fe λ_ _=>rfl),(Fe λi hi=>by match i,hi with|0,_=>rfl|1,_=>rfl|_+2,h=>exact absurd h ω),(Fe λ_ _=>rfl),(Fe λ_ _=>rfl),trivial⟩ (hJ2 _ _ (by omega:l9.n-(j3+1)<l9.n-j3) ⟨j3+1,j3n+1,Gy j3g j3n ⟨v32.1,hv32.1 (of_decide_eq_true hx33)⟩,rfl,⟨ω,ω⟩,rfl⟩)))))))))))))))
 exact Uh [1,5,7,8,9,36] hS35
 exact Ae 9 (Uh [1,5,7,8,9,36] hS35)
 exact Ae 35 (Kl (Ae 9 (Kl (Ae 3 (Qc (Ae 6 (Qc (Ae 8 (gs (Dm (((j3:Nat):Int)+1) ((j3+1:Nat):Int) ·) (Ae 2 (Hd [0,1,6,7,8] [(0,0),(1,1),(2,2),(3,3),(14,14),(5,5),(6,6),(7,7),(8,8),(10,10),(12,12),(13,13)] 15 [(201,4,j3n,(λxi=>Cz (j3g xi).1)),(23,1,1+f.hn,(λxi=>Dj (Cm f xi))),(255,2,2,(λxi=>[.lit (.agg #[.int .i64 (Ai (Ai ((Ai (b.x-a.x))*(Ai ((l9.f j3).x-a.x)))+Ai ((Ai (b.y-a.y))*(Ai ((l9.f j3).y-a.y))))),.int .i64 (Ai (Ai ((Ai (b.x-a.x))*(Ai (b.x-a.x)))+Ai ((Ai (b.y-a.y))*(Ai (b.y-a.y)))))]),.lit (.agg #[.int .i64 (Ai (Ai ((Ai (b.x-a.x))*(Ai ((l9.f ((j3+1)%l9.n)).x-a.x)))+Ai ((Ai (b.y-a.y))*(Ai ((l9.f ((j3+1)%l9.n)).y-a.y))))),.int .i64 (Ai (Ai ((Ai (b.x-a.x))*(Ai (b.x-a.x)))+Ai ((Ai (b.y-a.y))*(Ai (b.y-a.y)))))])].getD xi .top))] ⟨(Fe λ_ _=>rfl),(Fe λ_ _=>rfl),(Fe λi hi=>by match i,hi with|0,_=>rfl|1,_=>rfl|_+2,h=>exact absurd h ω),trivial⟩ (hJ2 _ _ (by omega:l9.n-(j3+1)<l9.n-j3) ⟨j3+1,j3n,j3g,rfl,⟨ω,ω⟩,rfl⟩))))))))))))
 refine Ff 29 ?_ ?_
 refine Ae 4 (Eh (Sd v28.1.num v28.1.den) λv37 hv37=>(gs (Aw hv37 ·) (Ae 4 (Ff 36 ?_ ?_))))
 refine Ae 4 (gs (Bi (.osl 29 4 1) (.new 29 (.vec 201 4 1 (λ_=>Cz v28.1))) (Au 211 1 #[(0,(.tmp 38))] κ underlying211 4 sizeOf201 _ zeroValue201 κ β β β 29 [.bool v28.1.num.neg,.lit (.string v28.1.num.mag),.bool v28.1.den.neg,.lit (.string v28.1.den.mag)] κ (λ_=>Cz v28.1) κ) ·) (gs (Bi (.osl 30 4 (j3n+1)) (.grow2 14 29 30 (.vec 201 4 (j3n+1) (λxi=>Cz (Gy j3g j3n ⟨v28.1,hv28.1 (of_decide_eq_true hx29)⟩ xi).1))) (Em (.tmp 37) (.tmp 39) 211 κ underlying211 4 48 (.agg #[.bool false,.string ⟨#[]⟩,.bool false,.string ⟨#[]⟩]) κ κ δ j3n 1 ω (λxi=>Cz (j3g xi).1) (λ_=>Cz v28.1) (λxi=>Cz (Gy j3g j3n ⟨v28.1,hv28.1 (of_decide_eq_true hx29)⟩ xi).1) 30 ω (by unfold maxLen;omega) (λi hi=>by rw[Tn hi]) (λi hi=>by(obtain rfl:i=0:=(ω));rw[Tm]) (λi hi j hj=>match j,hj with|0,_=>rfl|1,_=>rfl|2,_=>rfl|3,_=>rfl|_+4,h=>absurd h ω) 14 κ κ 29 201 κ κ) ·) (Ae 22 (gs (Iz 1 2 ·) (gs (Bi (.lit (.agg #[.int .i64 (Ai (Ai ((Ai (b.x-a.x))*(Ai ((l9.f ((j3+1)%l9.n)).x-a.x)))+Ai ((Ai (b.y-a.y))*(Ai ((l9.f ((j3+1)%l9.n)).y-a.y))))),.int .i64 (Ai (Ai ((Ai (b.x-a.x))*(Ai (b.x-a.x)))+Ai ((Ai (b.y-a.y))*(Ai (b.y-a.y)))))])) (.read 26) (Bz 255 (.tmp 11) κ isAgg255 2 sizeOf255 26 1 κ 255 2 (λxi=>[.lit (.agg #[.int .i64 (Ai (Ai ((Ai (b.x-a.x))*(Ai ((l9.f j3).x-a.x)))+Ai ((Ai (b.y-a.y))*(Ai ((l9.f j3).y-a.y))))),.int .i64 (Ai (Ai ((Ai (b.x-a.x))*(Ai (b.x-a.x)))+Ai ((Ai (b.y-a.y))*(Ai (b.y-a.y)))))]),.lit (.agg #[.int .i64 (Ai (Ai ((Ai (b.x-a.x))*(Ai ((l9.f ((j3+1)%l9.n)).x-a.x)))+Ai ((Ai (b.y-a.y))*(Ai ((l9.f ((j3+1)%l9.n)).y-a.y))))),.int .i64 (Ai (Ai ((Ai (b.x-a.x))*(Ai (b.x-a.x)))+Ai ((Ai (b.y-a.y))*(Ai (b.y-a.y)))))])].getD xi .top) κ ω) ·) (Ae 6 (gs (Bi (.ptr 31 0) .none (Ao 255 (.tmp 4) (.const (.int .i64 0)) κ underlying255 31 0 1 0 0 κ κ sizeOf3 δ ω δ) ·) (Ae 1 (gs (Bi (.ptr 31 1) .none (Ao 255 (.tmp 4) (.const (.int .i64 1)) κ underlying255 31 0 1 1 1 κ κ sizeOf3 δ ω δ) ·) (Ae 1 (Exists.elim (dZ (Ai (Ai ((Ai (b.x-a.x))*(Ai ((l9.f ((j3+1)%l9.n)).x-a.x)))+Ai ((Ai (b.y-a.y))*(Ai ((l9.f ((j3+1)%l9.n)).y-a.y))))) (Ai (Ai ((Ai (b.x-a.x))*(Ai (b.x-a.x)))+Ai ((Ai (b.y-a.y))*(Ai (b.y-a.y))))) (Pa (Ai ((Ai (b.x-a.x))*(Ai ((l9.f ((j3+1)%l9.n)).x-a.x)))+Ai ((Ai (b.y-a.y))*(Ai ((l9.f ((j3+1)%l9.n)).y-a.y))))) (Oz (Ai ((Ai (b.x-a.x))*(Ai ((l9.f ((j3+1)%l9.n)).x-a.x)))+Ai ((Ai (b.y-a.y))*(Ai ((l9.f ((j3+1)%l9.n)).y-a.y))))) (Pa (Ai ((Ai (b.x-a.x))*(Ai (b.x-a.x)))+Ai ((Ai (b.y-a.y))*(Ai (b.y-a.y))))) (Oz (Ai ((Ai (b.x-a.x))*(Ai (b.x-a.x)))+Ai ((Ai (b.y-a.y))*(Ai (b.y-a.y)))))) λv38 hv38=>(gs (Aw hv38.2 ·) (Ae 13 (Jf 23 (v38.2=0) (λhx39 hx39d=>?_) (λhx39 hx39d=>?_)))))))))))))))
 refine Ae 2 (Eh (Iw v38.1.num) λv40 hv40=>(gs (Aw hv40 ·) (Ae 3 (tsh 9 29 false [1,5,7,8,9,36] ?_ (λhS41=>?_)))))
 exact Ae 20 (Kl (Ae 9 (Kl (Ae 3 (Qc (Ae 6 (Qc (Ae 8 (gs (Dm (((j3:Nat):Int)+1) ((j3+1:Nat):Int) ·) (Ae 2 (Hd [0,1,6,7,8] [(0,0),(1,1),(2,2),(3,3),(30,14),(5,5),(6,6),(7,7),(8,8),(10,10),(12,12),(13,13)] 15 [(23,1,1+f.hn,(λxi=>Dj (Cm f xi))),(255,2,2,(λxi=>[.lit (.agg #[.int .i64 (Ai (Ai ((Ai (b.x-a.x))*(Ai ((l9.f j3).x-a.x)))+Ai ((Ai (b.y-a.y))*(Ai ((l9.f j3).y-a.y))))),.int .i64 (Ai (Ai ((Ai (b.x-a.x))*(Ai (b.x-a.x)))+Ai ((Ai (b.y-a.y))*(Ai (b.y-a.y)))))]),.lit (.agg #[.int .i64 (Ai (Ai ((Ai (b.x-a.x))*(Ai ((l9.f ((j3+1)%l9.n)).x-a.x)))+Ai ((Ai (b.y-a.y))*(Ai ((l9.f ((j3+1)%l9.n)).y-a.y))))),.int .i64 (Ai (Ai ((Ai (b.x-a.x))*(Ai (b.x-a.x)))+Ai ((Ai (b.y-a.y))*(Ai (b.y-a.y)))))])].getD xi .top)),(201,4,1,(λ_=>Cz v28.1)),(201,4,j3n+1,(λxi=>Cz (Gy j3g j3n ⟨v28.1,hv28.1 (of_decide_eq_true hx29)⟩ xi).1))] ⟨(Fe λ_ _=>rfl),(Fe λi hi=>by match i,hi with|0,_=>rfl|1,_=>rfl|_+2,h=>exact absurd h ω),(Fe λ_ _=>rfl),(Fe λ_ _=>rfl),trivial⟩ (hJ2 _ _ (by omega:l9.n-(j3+1)<l9.n-j3) ⟨j3+1,j3n+1,Gy j3g j3n ⟨v28.1,hv28.1 (of_decide_eq_true hx29)⟩,rfl,⟨ω,ω⟩,rfl⟩))))))))))))
 refine Ff 29 ?_ ?_
 refine Ae 4 (Eh (Sd v38.1.num v38.1.den) λv42 hv42=>(gs (Aw hv42 ·) (Ae 4 (Ff 36 ?_ ?_))))
 exact Ae 4 (gs (Bi (.osl 33 4 1) (.new 33 (.vec 201 4 1 (λ_=>Cz v38.1))) (Au 211 1 #[(0,(.tmp 38))] κ underlying211 4 sizeOf201 _ zeroValue201 κ β β β 33 [.bool v38.1.num.neg,.lit (.string v38.1.num.mag),.bool v38.1.den.neg,.lit (.string v38.1.den.mag)] κ (λ_=>Cz v38.1) κ) ·) (gs (Bi (.osl 34 4 (j3n+1+1)) (.grow2 30 33 34 (.vec 201 4 (j3n+1+1) (λxi=>Cz (Gy (Gy j3g j3n ⟨v28.1,hv28.1 (of_decide_eq_true hx29)⟩) (j3n+1) ⟨v38.1,hv38.1 (of_decide_eq_true hx39)⟩ xi).1))) (Em (.tmp 37) (.tmp 39) 211 κ underlying211 4 48 (.agg #[.bool false,.string ⟨#[]⟩,.bool false,.string ⟨#[]⟩]) κ κ δ (j3n+1) 1 ω (λxi=>Cz (Gy j3g j3n ⟨v28.1,hv28.1 (of_decide_eq_true hx29)⟩ xi).1) (λ_=>Cz v38.1) (λxi=>Cz (Gy (Gy j3g j3n ⟨v28.1,hv28.1 (of_decide_eq_true hx29)⟩) (j3n+1) ⟨v38.1,hv38.1 (of_decide_eq_true hx39)⟩ xi).1) 34 ω (by unfold maxLen;omega) (λi hi=>by rw[Tn hi]) (λi hi=>by(obtain rfl:i=0:=(ω));rw[Tm]) (λi hi j hj=>match j,hj with|0,_=>rfl|1,_=>rfl|2,_=>rfl|3,_=>rfl|_+4,h=>absurd h ω) 30 κ κ 33 201 κ κ) ·) (Ae 20 (Kl (Ae 9 (Kl (Ae 3 (Qc (Ae 6 (Qc (Ae 8 (gs (Dm (((j3:Nat):Int)+1) ((j3+1:Nat):Int) ·) (Ae 2 (Hd [0,1,6,7,8] [(0,0),(1,1),(2,2),(3,3),(34,14),(5,5),(6,6),(7,7),(8,8),(10,10),(12,12),(13,13)] 15 [(23,1,1+f.hn,(λxi=>Dj (Cm f xi))),(255,2,2,(λxi=>[.lit (.agg #[.int .i64 (Ai (Ai ((Ai (b.x-a.x))*(Ai ((l9.f j3).x-a.x)))+Ai ((Ai (b.y-a.y))*(Ai ((l9.f j3).y-a.y))))),.int .i64 (Ai (Ai ((Ai (b.x-a.x))*(Ai (b.x-a.x)))+Ai ((Ai (b.y-a.y))*(Ai (b.y-a.y)))))]),.lit (.agg #[.int .i64 (Ai (Ai ((Ai (b.x-a.x))*(Ai ((l9.f ((j3+1)%l9.n)).x-a.x)))+Ai ((Ai (b.y-a.y))*(Ai ((l9.f ((j3+1)%l9.n)).y-a.y))))),.int .i64 (Ai (Ai ((Ai (b.x-a.x))*(Ai (b.x-a.x)))+Ai ((Ai (b.y-a.y))*(Ai (b.y-a.y)))))])].getD xi .top)),(201,4,1,(λ_=>Cz v28.1)),(201,4,1,(λ_=>Cz v38.1)),(201,4,j3n+1+1,(λxi=>Cz (Gy (Gy j3g j3n ⟨v28.1,hv28.1 (of_decide_eq_true hx29)⟩) (j3n+1) ⟨v38.1,hv38.1 (of_decide_eq_true hx39)⟩ xi).1))] ⟨(Fe λ_ _=>rfl),(Fe λi hi=>by match i,hi with|0,_=>rfl|1,_=>rfl|_+2,h=>exact absurd h ω),(Fe λ_ _=>rfl),(Fe λ_ _=>rfl),(Fe λ_ _=>rfl),trivial⟩ (hJ2 _ _ (by omega:l9.n-(j3+1)<l9.n-j3) ⟨j3+1,j3n+1+1,Gy (Gy j3g j3n ⟨v28.1,hv28.1 (of_decide_eq_true hx29)⟩) (j3n+1) ⟨v38.1,hv38.1 (of_decide_eq_true hx39)⟩,rfl,⟨ω,ω⟩,rfl⟩)))))))))))))))
 exact Uh [1,5,7,8,9,36] hS41
 exact Ae 9 (Uh [1,5,7,8,9,36] hS41)
 exact Ae 35 (Kl (Ae 9 (Kl (Ae 3 (Qc (Ae 6 (Qc (Ae 8 (gs (Dm (((j3:Nat):Int)+1) ((j3+1:Nat):Int) ·) (Ae 2 (Hd [0,1,6,7,8] [(0,0),(1,1),(2,2),(3,3),(30,14),(5,5),(6,6),(7,7),(8,8),(10,10),(12,12),(13,13)] 15 [(23,1,1+f.hn,(λxi=>Dj (Cm f xi))),(255,2,2,(λxi=>[.lit (.agg #[.int .i64 (Ai (Ai ((Ai (b.x-a.x))*(Ai ((l9.f j3).x-a.x)))+Ai ((Ai (b.y-a.y))*(Ai ((l9.f j3).y-a.y))))),.int .i64 (Ai (Ai ((Ai (b.x-a.x))*(Ai (b.x-a.x)))+Ai ((Ai (b.y-a.y))*(Ai (b.y-a.y)))))]),.lit (.agg #[.int .i64 (Ai (Ai ((Ai (b.x-a.x))*(Ai ((l9.f ((j3+1)%l9.n)).x-a.x)))+Ai ((Ai (b.y-a.y))*(Ai ((l9.f ((j3+1)%l9.n)).y-a.y))))),.int .i64 (Ai (Ai ((Ai (b.x-a.x))*(Ai (b.x-a.x)))+Ai ((Ai (b.y-a.y))*(Ai (b.y-a.y)))))])].getD xi .top)),(201,4,1,(λ_=>Cz v28.1)),(201,4,j3n+1,(λxi=>Cz (Gy j3g j3n ⟨v28.1,hv28.1 (of_decide_eq_true hx29)⟩ xi).1))] ⟨(Fe λ_ _=>rfl),(Fe λi hi=>by match i,hi with|0,_=>rfl|1,_=>rfl|_+2,h=>exact absurd h ω),(Fe λ_ _=>rfl),(Fe λ_ _=>rfl),trivial⟩ (hJ2 _ _ (by omega:l9.n-(j3+1)<l9.n-j3) ⟨j3+1,j3n+1,Gy j3g j3n ⟨v28.1,hv28.1 (of_decide_eq_true hx29)⟩,rfl,⟨ω,ω⟩,rfl⟩))))))))))))
 exact Uh [1,5,7,8,9,36] hS31
 exact Ae 9 (Uh [1,5,7,8,9,36] hS31)
 refine Ae 37 (gs (Iz 1 2 ·) (gs (Bi (.lit (.agg #[.int .i64 (Ai (Ai ((Ai (b.x-a.x))*(Ai ((l9.f ((j3+1)%l9.n)).x-a.x)))+Ai ((Ai (b.y-a.y))*(Ai ((l9.f ((j3+1)%l9.n)).y-a.y))))),.int .i64 (Ai (Ai ((Ai (b.x-a.x))*(Ai (b.x-a.x)))+Ai ((Ai (b.y-a.y))*(Ai (b.y-a.y)))))])) (.read 26) (Bz 255 (.tmp 11) κ isAgg255 2 sizeOf255 26 1 κ 255 2 (λxi=>[.lit (.agg #[.int .i64 (Ai (Ai ((Ai (b.x-a.x))*(Ai ((l9.f j3).x-a.x)))+Ai ((Ai (b.y-a.y))*(Ai ((l9.f j3).y-a.y))))),.int .i64 (Ai (Ai ((Ai (b.x-a.x))*(Ai (b.x-a.x)))+Ai ((Ai (b.y-a.y))*(Ai (b.y-a.y)))))]),.lit (.agg #[.int .i64 (Ai (Ai ((Ai (b.x-a.x))*(Ai ((l9.f ((j3+1)%l9.n)).x-a.x)))+Ai ((Ai (b.y-a.y))*(Ai ((l9.f ((j3+1)%l9.n)).y-a.y))))),.int .i64 (Ai (Ai ((Ai (b.x-a.x))*(Ai (b.x-a.x)))+Ai ((Ai (b.y-a.y))*(Ai (b.y-a.y)))))])].getD xi .top) κ ω) ·) (Ae 6 (gs (Bi (.ptr 29 0) .none (Ao 255 (.tmp 4) (.const (.int .i64 0)) κ underlying255 29 0 1 0 0 κ κ sizeOf3 δ ω δ) ·) (Ae 1 (gs (Bi (.ptr 29 1) .none (Ao 255 (.tmp 4) (.const (.int .i64 1)) κ underlying255 29 0 1 1 1 κ κ sizeOf3 δ ω δ) ·) (Ae 1 (Exists.elim (dZ (Ai (Ai ((Ai (b.x-a.x))*(Ai ((l9.f ((j3+1)%l9.n)).x-a.x)))+Ai ((Ai (b.y-a.y))*(Ai ((l9.f ((j3+1)%l9.n)).y-a.y))))) (Ai (Ai ((Ai (b.x-a.x))*(Ai (b.x-a.x)))+Ai ((Ai (b.y-a.y))*(Ai (b.y-a.y))))) (Pa (Ai ((Ai (b.x-a.x))*(Ai ((l9.f ((j3+1)%l9.n)).x-a.x)))+Ai ((Ai (b.y-a.y))*(Ai ((l9.f ((j3+1)%l9.n)).y-a.y))))) (Oz (Ai ((Ai (b.x-a.x))*(Ai ((l9.f ((j3+1)%l9.n)).x-a.x)))+Ai ((Ai (b.y-a.y))*(Ai ((l9.f ((j3+1)%l9.n)).y-a.y))))) (Pa (Ai ((Ai (b.x-a.x))*(Ai (b.x-a.x)))+Ai ((Ai (b.y-a.y))*(Ai (b.y-a.y))))) (Oz (Ai ((Ai (b.x-a.x))*(Ai (b.x-a.x)))+Ai ((Ai (b.y-a.y))*(Ai (b.y-a.y)))))) λv43 hv43=>(gs (Aw hv43.2 ·) (Ae 13 (Jf 23 (v43.2=0) (λhx44 hx44d=>?_) (λhx44 hx44d=>?_))))))))))))
 refine Ae 2 (Eh (Iw v43.1.num) λv45 hv45=>(gs (Aw hv45 ·) (Ae 3 (tsh 9 29 false [1,5,7,8,9,36] ?_ (λhS46=>?_)))))
 exact Ae 20 (Kl (Ae 9 (Kl (Ae 3 (Qc (Ae 6 (Qc (Ae 8 (gs (Dm (((j3:Nat):Int)+1) ((j3+1:Nat):Int) ·) (Ae 2 (Hd [0,1,6,7,8] [(0,0),(1,1),(2,2),(3,3),(14,14),(5,5),(6,6),(7,7),(8,8),(10,10),(12,12),(13,13)] 15 [(201,4,j3n,(λxi=>Cz (j3g xi).1)),(23,1,1+f.hn,(λxi=>Dj (Cm f xi))),(255,2,2,(λxi=>[.lit (.agg #[.int .i64 (Ai (Ai ((Ai (b.x-a.x))*(Ai ((l9.f j3).x-a.x)))+Ai ((Ai (b.y-a.y))*(Ai ((l9.f j3).y-a.y))))),.int .i64 (Ai (Ai ((Ai (b.x-a.x))*(Ai (b.x-a.x)))+Ai ((Ai (b.y-a.y))*(Ai (b.y-a.y)))))]),.lit (.agg #[.int .i64 (Ai (Ai ((Ai (b.x-a.x))*(Ai ((l9.f ((j3+1)%l9.n)).x-a.x)))+Ai ((Ai (b.y-a.y))*(Ai ((l9.f ((j3+1)%l9.n)).y-a.y))))),.int .i64 (Ai (Ai ((Ai (b.x-a.x))*(Ai (b.x-a.x)))+Ai ((Ai (b.y-a.y))*(Ai (b.y-a.y)))))])].getD xi .top))] ⟨(Fe λ_ _=>rfl),(Fe λ_ _=>rfl),(Fe λi hi=>by match i,hi with|0,_=>rfl|1,_=>rfl|_+2,h=>exact absurd h ω),trivial⟩ (hJ2 _ _ (by omega:l9.n-(j3+1)<l9.n-j3) ⟨j3+1,j3n,j3g,rfl,⟨ω,ω⟩,rfl⟩))))))))))))
 refine Ff 29 ?_ ?_
 refine Ae 4 (Eh (Sd v43.1.num v43.1.den) λv47 hv47=>(gs (Aw hv47 ·) (Ae 4 (Ff 36 ?_ ?_))))
 exact Ae 4 (gs (Bi (.osl 31 4 1) (.new 31 (.vec 201 4 1 (λ_=>Cz v43.1))) (Au 211 1 #[(0,(.tmp 38))] κ underlying211 4 sizeOf201 _ zeroValue201 κ β β β 31 [.bool v43.1.num.neg,.lit (.string v43.1.num.mag),.bool v43.1.den.neg,.lit (.string v43.1.den.mag)] κ (λ_=>Cz v43.1) κ) ·) (gs (Bi (.osl 32 4 (j3n+1)) (.grow2 14 31 32 (.vec 201 4 (j3n+1) (λxi=>Cz (Gy j3g j3n ⟨v43.1,hv43.1 (of_decide_eq_true hx44)⟩ xi).1))) (Em (.tmp 37) (.tmp 39) 211 κ underlying211 4 48 (.agg #[.bool false,.string ⟨#[]⟩,.bool false,.string ⟨#[]⟩]) κ κ δ j3n 1 ω (λxi=>Cz (j3g xi).1) (λ_=>Cz v43.1) (λxi=>Cz (Gy j3g j3n ⟨v43.1,hv43.1 (of_decide_eq_true hx44)⟩ xi).1) 32 ω (by unfold maxLen;omega) (λi hi=>by rw[Tn hi]) (λi hi=>by(obtain rfl:i=0:=(ω));rw[Tm]) (λi hi j hj=>match j,hj with|0,_=>rfl|1,_=>rfl|2,_=>rfl|3,_=>rfl|_+4,h=>absurd h ω) 14 κ κ 31 201 κ κ) ·) (Ae 20 (Kl (Ae 9 (Kl (Ae 3 (Qc (Ae 6 (Qc (Ae 8 (gs (Dm (((j3:Nat):Int)+1) ((j3+1:Nat):Int) ·) (Ae 2 (Hd [0,1,6,7,8] [(0,0),(1,1),(2,2),(3,3),(32,14),(5,5),(6,6),(7,7),(8,8),(10,10),(12,12),(13,13)] 15 [(23,1,1+f.hn,(λxi=>Dj (Cm f xi))),(255,2,2,(λxi=>[.lit (.agg #[.int .i64 (Ai (Ai ((Ai (b.x-a.x))*(Ai ((l9.f j3).x-a.x)))+Ai ((Ai (b.y-a.y))*(Ai ((l9.f j3).y-a.y))))),.int .i64 (Ai (Ai ((Ai (b.x-a.x))*(Ai (b.x-a.x)))+Ai ((Ai (b.y-a.y))*(Ai (b.y-a.y)))))]),.lit (.agg #[.int .i64 (Ai (Ai ((Ai (b.x-a.x))*(Ai ((l9.f ((j3+1)%l9.n)).x-a.x)))+Ai ((Ai (b.y-a.y))*(Ai ((l9.f ((j3+1)%l9.n)).y-a.y))))),.int .i64 (Ai (Ai ((Ai (b.x-a.x))*(Ai (b.x-a.x)))+Ai ((Ai (b.y-a.y))*(Ai (b.y-a.y)))))])].getD xi .top)),(201,4,1,(λ_=>Cz v43.1)),(201,4,j3n+1,(λxi=>Cz (Gy j3g j3n ⟨v43.1,hv43.1 (of_decide_eq_true hx44)⟩ xi).1))] ⟨(Fe λ_ _=>rfl),(Fe λi hi=>by match i,hi with|0,_=>rfl|1,_=>rfl|_+2,h=>exact absurd h ω),(Fe λ_ _=>rfl),(Fe λ_ _=>rfl),trivial⟩ (hJ2 _ _ (by omega:l9.n-(j3+1)<l9.n-j3) ⟨j3+1,j3n+1,Gy j3g j3n ⟨v43.1,hv43.1 (of_decide_eq_true hx44)⟩,rfl,⟨ω,ω⟩,rfl⟩)))))))))))))))
 exact Uh [1,5,7,8,9,36] hS46
 exact Ae 9 (Uh [1,5,7,8,9,36] hS46)
 exact Ae 35 (Kl (Ae 9 (Kl (Ae 3 (Qc (Ae 6 (Qc (Ae 8 (gs (Dm (((j3:Nat):Int)+1) ((j3+1:Nat):Int) ·) (Ae 2 (Hd [0,1,6,7,8] [(0,0),(1,1),(2,2),(3,3),(14,14),(5,5),(6,6),(7,7),(8,8),(10,10),(12,12),(13,13)] 15 [(201,4,j3n,(λxi=>Cz (j3g xi).1)),(23,1,1+f.hn,(λxi=>Dj (Cm f xi))),(255,2,2,(λxi=>[.lit (.agg #[.int .i64 (Ai (Ai ((Ai (b.x-a.x))*(Ai ((l9.f j3).x-a.x)))+Ai ((Ai (b.y-a.y))*(Ai ((l9.f j3).y-a.y))))),.int .i64 (Ai (Ai ((Ai (b.x-a.x))*(Ai (b.x-a.x)))+Ai ((Ai (b.y-a.y))*(Ai (b.y-a.y)))))]),.lit (.agg #[.int .i64 (Ai (Ai ((Ai (b.x-a.x))*(Ai ((l9.f ((j3+1)%l9.n)).x-a.x)))+Ai ((Ai (b.y-a.y))*(Ai ((l9.f ((j3+1)%l9.n)).y-a.y))))),.int .i64 (Ai (Ai ((Ai (b.x-a.x))*(Ai (b.x-a.x)))+Ai ((Ai (b.y-a.y))*(Ai (b.y-a.y)))))])].getD xi .top))] ⟨(Fe λ_ _=>rfl),(Fe λ_ _=>rfl),(Fe λi hi=>by match i,hi with|0,_=>rfl|1,_=>rfl|_+2,h=>exact absurd h ω),trivial⟩ (hJ2 _ _ (by omega:l9.n-(j3+1)<l9.n-j3) ⟨j3+1,j3n,j3g,rfl,⟨ω,ω⟩,rfl⟩))))))))))))
 exact Ae 10 (Kl (Ae 3 (Qc (Ae 6 (Qc (Ae 8 (gs (Dm (((j3:Nat):Int)+1) ((j3+1:Nat):Int) ·) (Ae 2 (Hd [0,1,6,7,8] [(0,0),(1,1),(2,2),(3,3),(14,14),(5,5),(6,6),(7,7),(8,8),(10,10),(12,12),(13,13)] 15 [(201,4,j3n,(λxi=>Cz (j3g xi).1)),(23,1,1+f.hn,(λxi=>Dj (Cm f xi)))] ⟨(Fe λ_ _=>rfl),(Fe λ_ _=>rfl),trivial⟩ (hJ2 _ _ (by omega:l9.n-(j3+1)<l9.n-j3) ⟨j3+1,j3n,j3g,rfl,⟨ω,ω⟩,rfl⟩))))))))))
 exact Ae 5 (aF (Ae 4 (gs (Dm ((i:Int)+1) ((i+1:Nat):Int) ·) (Ae 2 (Hd [2,15,16,17] [(0,0),(1,1),(2,2),(3,3),(14,11),(5,5),(6,6),(7,7),(8,8),(10,10)] 12 [(201,4,j3n,(λxi=>Cz (j3g xi).1)),(23,1,1+f.hn,(λxi=>Dj (Cm f xi)))] ⟨(Fe λ_ _=>rfl),(Fe λ_ _=>rfl),trivial⟩ (hJ1 _ _ (by omega:f.hn+1-(i+1)<f.hn+1-i) ⟨i+1,j3n,j3g,rfl,⟨ω,ω⟩,rfl⟩))))))
 refine AjQ 27 (decide ((0:Int)<(gI v11))=decide ((i:Int)=0)) (λhx48 hx48d=>?_) (λhx48 hx48d=>?_)
 exact Ae 3 (Uh [2,4,15,16,17] (hJ9 (Cm f i) ⟨hn1,hn3⟩))
 exact Ae 4 (mH func98 (Ae 9 (gs (ven ((Cm f i).n) ·) (Ae 7 (gs (Bi (.osl 12 3 0) (.new 12 (.vec 62 3 0 (λ_=> .top))) (aB 23 κ underlying23 3 sizeOf62 12 (λ_=> .top)) ·) (Ae 1 (gs (Bi (.osl 13 3 ((Cm f i).n)) (.grow 12 13 (.vec 62 3 ((Cm f i).n) (λi0=>Bs ((Cm f i).f i0)))) (AaS (Ow (.tmp 5) (.tmp 6) 23 κ underlying23 3 24 (.agg #[.int .i64 0,.int .i64 0,.int .i64 0]) κ κ δ 0 ((Cm f i).n) ω (λ_=> .top) (λi0=>Bs ((Cm f i).f i0)) (λi0=>Bs ((Cm f i).f i0)) 13 ω (by unfold maxLen;omega) (λi hi=>absurd hi (Nat.not_lt_zero i)) (λi hi=>by rw[Nat.zero_add]) (λi hi j hj=>match j,hj with|0,_=>rfl|1,_=>rfl|2,_=>rfl|_+3,h=>absurd h ω) 12 κ κ κ) (Nat.zero_add _)) ·) (Ae 4 (Kl (Ae 5 (gs (Bi (.osw 13 3 1 (((Cm f i).n)-1)) (.read 13) (Qz 23 (.tmp 30) (some (.const (.int .i64 1))) none κ underlying23 13 3 ((Cm f i).n) sizeOf62 62 (λi0=>Bs ((Cm f i).f i0)) κ κ 1 ((Cm f i).n) (.inr ⟨(.const (.int .i64 1)),1,rfl,κ,ω⟩) (.inl ⟨rfl,rfl⟩) ω ω) ·) (gs (Bi (.lit (.tuple #[])) (.set 13 (.vec 62 3 ((Cm f i).n) (λxi=>Bs ((AeR (Cm f i)).f xi)))) (AeD (.tmp 31) #[23] 13 62 (Cm f i) ω ω κ κ κ) ·) (Ae 2 (gs (AbI 13 [4] 62 3 ((Cm f i).n) (λxi=>Bs ((AeR (Cm f i)).f xi)) (Fe λ_ _=>rfl) ·) (tfg [2,4,15,16,17] [(0,0),(1,1),(2,2),(3,3),(11,11),(5,5),(6,6),(7,7),(8,8),(10,10)] 12 [(201,4,n,(λxi=>Cz (g xi).1)),(23,1,1+f.hn,(λxi=>Dj (Cm f xi)))] ⟨(Fe λ_ _=>rfl),(Fe λ_ _=>rfl),trivial⟩ (Uh [2,4,15,16,17] (hJ9 (AeR (Cm f i)) ⟨hn1,hn3⟩)))))))))))))))))
 refine Ae 5 (aF (Ae 11 (gs (Bi (.lit (.tuple #[])) (.set 11 (.vec 201 4 n (λxi=>Cz (Je g n xi).1))) (AaU (.tmp 73) (.tmp 74) #[211,215] 11 201 n g ω κ κ κ κ) ·) (Ae 5 (mH func142 (Ae 13 (Jf 8 ((n:Int)<2) (λhx51 hx51d=>?_) (λhx51 hx51d=>?_))))))))
 refine Ae 9 (Kl (Ae 21 (tfg [3,4,5,8,9,13,14,15] [(0,0),(1,1),(2,2),(3,3),(11,11),(5,5),(12,12)] 13 [(201,4,n,(λxi=>Cz (Je g n xi).1)),(23,1,1+f.hn,(λxi=>Dj (Cm f xi)))] ⟨(Fe λ_ _=>rfl),(Fe λ_ _=>rfl),trivial⟩ (Vy [3,4,5,8,9,13,14,15] (λm s=>∃(q:Nat) (qe:Int),m=n-q/\(1<=q)/\s=⟨[(3,.ptr 0 0),(4,.ptr 1 0),(5,.ptr 2 0),(8,.ptr 3 0),(9,.ptr 5 0),(13,.ptr 12 0),(14,.fn 143 [.ptr 12 0]),(15,.int (q:Int))],[(0,.box 33 [Dj f.o,hsA f,.int f.low,.int f.high]),(1,.box 62 [.int a.x,.int a.y,.int a.z]),(2,.box 62 [.int b.x,.int b.y,.int b.z]),(3,.box 94 [.bool (decide ((1:Int)<0)),.lit (.string (Dd (1:Int).natAbs))]),(11,.vec 201 4 n (λxi=>Cz (Je g n xi).1)),(5,.box 211 [.osl 11 4 n]),(12,.box 219 [.int qe])],13,131⟩) (n-1) ⟨1,0,rfl,Nat.le_refl _,κ⟩ ?_))))
 rintro _ _ ⟨q,qe,rfl,hF,rfl⟩ hJ3
 refine Ae 9 (Jf 82 ((q:Int)<(n:Int)) (λhx52 hx52d=>?_) (λhx52 hx52d=>?_))
 refine Ae 6 (Eh (jM ((Je g n (q-1)).1) ((Je g n q).1)) λv53 hv53=>(gs (Dg [(2,.int ((q-1:Nat):Int),.none),(3,Dx (.osl 11 4 n) (q-1),.none),(4,Cz (Je g n (q-1)).1,(.read 11)),(7,Dx (.osl 11 4 n) q,.none),(8,Cz (Je g n q).1,(.read 11)),(9,_,.none)] [3,4,5,8,9,13,14,15,16] ⟨As (Bb (v:= .int .i64 (IntKind.wrap .i64 ((q:Int)-1))) (v':= .int .i64 ((q-1:Nat):Int)) _ κ rfl κ (λw=>by kernel_rfl) (congrArg (Value.int .i64) ((IntWalk.i64_in _ ω).trans ω))),Pc (q-1) n,As (Bz 201 (.tmp 89) κ isAgg201 4 sizeOf201 11 (q-1) κ 201 n (λxi=>Cz (Je g n xi).1) κ ω),Pc q n,As (Bz 201 (.tmp 93) κ isAgg201 4 sizeOf201 11 q κ 201 n (λxi=>Cz (Je g n xi).1) κ ω),Bu hv53,trivial⟩ ·) (Ae 2 (Eh (jN (⟨⟨(gB (gT (gT v53 0) 0)),(gS (gT (gT v53 0) 1))⟩,⟨(gB (gT (gT v53 0) 2)),(gS (gT (gT v53 0) 3))⟩⟩) (⟨⟨decide ((1:Int)<0),Dd (1:Int).natAbs⟩,⟨decide ((2:Int)<0),Dd (2:Int).natAbs⟩⟩)) λv54 hv54=>(gs (Dg [(2,_,.none),(4,_,.none)] [3,4,5,8,9,13,14,15,18] ⟨Bu (Hk 2 δ δ),Bu hv54,trivial⟩ ·) (Ae 2 (Exists.elim (Po qe a.x (Ai (b.x-a.x)) (⟨⟨(gB (gT (gT v54 0) 0)),(gS (gT (gT v54 0) 1))⟩,⟨(gB (gT (gT v54 0) 2)),(gS (gT (gT v54 0) 3))⟩⟩)) λv55 hv55=>(Exists.elim (Po v55.2 a.y (Ai (b.y-a.y)) (⟨⟨(gB (gT (gT v54 0) 0)),(gS (gT (gT v54 0) 1))⟩,⟨(gB (gT (gT v54 0) 2)),(gS (gT (gT v54 0) 3))⟩⟩)) λv56 hv56=>(Exists.elim (sR v56.2 (⟨⟨(gB (gT v55.1 0)),(gS (gT v55.1 1))⟩,⟨(gB (gT v55.1 2)),(gS (gT v55.1 3))⟩⟩) (⟨⟨(gB (gT v56.1 0)),(gS (gT v56.1 1))⟩,⟨(gB (gT v56.1 2)),(gS (gT v56.1 3))⟩⟩)) λv57 hv57=>(gs (Dg [(9,.lit (.agg #[.bool (gB (gT v55.1 0)),.string (gS (gT v55.1 1)),.bool (gB (gT v55.1 2)),.string (gS (gT v55.1 3))]),(.setr [] 12 (.box 219 [.int v55.2]))),(19,.lit (.agg #[.bool (gB (gT v56.1 0)),.string (gS (gT v56.1 1)),.bool (gB (gT v56.1 2)),.string (gS (gT v56.1 3))]),(.setr [] 12 (.box 219 [.int v56.2]))),(20,.lit (.agg #[.bool (gB (gT v57.1 0)),.string (gS (gT v57.1 1)),.bool (gB (gT v57.1 2)),.string (gS (gT v57.1 3)),.bool (gB (gT v57.1 4)),.string (gS (gT v57.1 5))]),(.setr [] 12 (.box 219 [.int v57.2])))] [3,4,5,8,9,13,14,15,20] ⟨As (Bg (.tmp 106) 143 #[.tmp 108,.tmp 113,.tmp 114] #[3,3,201] κ [.ptr 12 0] κ (λ_ _=>by kernel_rfl) 12 [] κ 219 [.int .i64 qe] [.int .i64 v55.2] κ [] κ [] κ [.int a.x,.int (Ai (b.x-a.x)),.lit (.agg #[.bool (gB (gT (gT v54 0) 0)),.string (gS (gT (gT v54 0) 1)),.bool (gB (gT (gT v54 0) 2)),.string (gS (gT (gT v54 0) 3))]),.ptr 0 0] κ (.agg #[.bool (gB (gT v55.1 0)),.string (gS (gT v55.1 1)),.bool (gB (gT v55.1 2)),.string (gS (gT v55.1 3))]) hv55),As (Bg (.tmp 116) 143 #[.tmp 118,.tmp 123,.tmp 124] #[3,3,201] κ [.ptr 12 0] κ (λ_ _=>by kernel_rfl) 12 [] κ 219 [.int .i64 v55.2] [.int .i64 v56.2] κ [] κ [] κ [.int a.y,.int (Ai (b.y-a.y)),.lit (.agg #[.bool (gB (gT (gT v54 0) 0)),.string (gS (gT (gT v54 0) 1)),.bool (gB (gT (gT v54 0) 2)),.string (gS (gT (gT v54 0) 3))]),.ptr 0 0] κ (.agg #[.bool (gB (gT v56.1 0)),.string (gS (gT v56.1 1)),.bool (gB (gT v56.1 2)),.string (gS (gT v56.1 3))]) hv56),As (Bg (.func 148) 148 #[.tmp 13,.tmp 115,.tmp 125] #[219,201,201] κ [] κ (λ_ _=>by kernel_rfl) 12 [] κ 219 [.int .i64 v56.2] [.int .i64 v57.2] κ [] κ [] κ [.ptr 0 0,.lit (.agg #[.bool (gB (gT v55.1 0)),.string (gS (gT v55.1 1)),.bool (gB (gT v55.1 2)),.string (gS (gT v55.1 3))]),.lit (.agg #[.bool (gB (gT v56.1 0)),.string (gS (gT v56.1 1)),.bool (gB (gT v56.1 2)),.string (gS (gT v56.1 3))])] κ (.agg #[.bool (gB (gT v57.1 0)),.string (gS (gT v57.1 1)),.bool (gB (gT v57.1 2)),.string (gS (gT v57.1 3)),.bool (gB (gT v57.1 4)),.string (gS (gT v57.1 5))]) hv57),trivial⟩ ·) (Ae 5 (Exists.elim (sO v57.2 (⟨⟨(gB (gT v57.1 0)),(gS (gT v57.1 1))⟩,⟨(gB (gT v57.1 2)),(gS (gT v57.1 3))⟩,⟨(gB (gT v57.1 4)),(gS (gT v57.1 5))⟩⟩) f h0) λv58 hv58=>(gs (Bi (.bool (gB v58.1)) (.setr [15] 12 (.box 219 [.int v58.2])) (Bg (.func 149) 149 #[.tmp 127,.tmp 128] #[33,228] κ [] κ (λ_ _=>by kernel_rfl) 12 [15] κ 219 [.int .i64 v57.2] [.int .i64 v58.2] κ [(224,[.bool (gB (gT v57.1 0)),.lit (.string (gS (gT v57.1 1))),.bool (gB (gT v57.1 2)),.lit (.string (gS (gT v57.1 3))),.bool (gB (gT v57.1 4)),.lit (.string (gS (gT v57.1 5)))])] κ [(224,[.bool (gB (gT v57.1 0)),.lit (.string (gS (gT v57.1 1))),.bool (gB (gT v57.1 2)),.lit (.string (gS (gT v57.1 3))),.bool (gB (gT v57.1 4)),.lit (.string (gS (gT v57.1 5)))])] κ [Rp f,.fn 150 [.ptr 0 0,.ptr 1 0]] κ (.bool (gB v58.1)) hv58) ·) (Ae 3 (Ff 130 ?_ ?_)))))))))))))))
 exact Ae 13 (Bl)
 exact Ae 6 (gs (Dm ((q:Int)+1) ((q+1:Nat):Int) ·) (Ae 2 (Hd [3,4,5,8,9,13,14,15] [(0,0),(1,1),(2,2),(3,3),(11,11),(5,5),(12,12)] 13 [(201,4,n,(λxi=>Cz (Je g n xi).1))] ⟨(Fe λ_ _=>rfl),trivial⟩ (hJ3 _ _ (by omega:n-(q+1)<n-q) ⟨q+1,v58.2,rfl,ω,rfl⟩))))
 exact Ae 13 (Bl)
 refine Ae 10 (Vy [0,3] (λm s=>∃(k:Nat),m=n-k/\(1<=k/\k<=n)/\s=⟨[(0,.osl 11 4 n),(3,.int (k:Int))],[(0,.box 33 [Dj f.o,hsA f,.int f.low,.int f.high]),(1,.box 62 [.int a.x,.int a.y,.int a.z]),(2,.box 62 [.int b.x,.int b.y,.int b.z]),(3,.box 94 [.bool (decide ((1:Int)<0)),.lit (.string (Dd (1:Int).natAbs))]),(11,.vec 201 4 n (λxi=>Cz (Je g n xi).1)),(5,.box 211 [.osl 11 4 n]),(6,.box 33 [Dj f.o,hsA f,.int f.low,.int f.high]),(8,.box 112 [.yld 7]),(10,.vec 23 1 (1+f.hn) (λxi=>Dj (Cm f xi)))],12,61⟩) (n-1) ⟨1,rfl,⟨ω,ω⟩,κ⟩ ?_)
 rintro _ _ ⟨k,rfl,hF,rfl⟩ hJ4
 refine Ae 9 (Jf 13 ((k:Int)<(n:Int)) (λhx59 hx59d=>?_) (λhx59 hx59d=>?_))
 refine Ae 6 (gs (Dg [(2,Dx (.osl 11 4 n) k,.none),(3,Cz (Je g n k).1,(.read 11)),(6,.int ((k-1:Nat):Int),.none),(7,Dx (.osl 11 4 n) (k-1),.none),(8,Cz (Je g n (k-1)).1,(.read 11)),(9,.bool (Aao ((Je g n k).1) ((Je g n (k-1)).1)),.none)] [0,3,25] ⟨Pc k n,As (Bz 201 (.tmp 18) κ isAgg201 4 sizeOf201 11 k κ 201 n (λxi=>Cz (Je g n xi).1) κ ω),As (Bb (v:= .int .i64 (IntKind.wrap .i64 ((k:Int)-1))) (v':= .int .i64 ((k-1:Nat):Int)) _ κ rfl κ (λw=>by kernel_rfl) (congrArg (Value.int .i64) ((IntWalk.i64_in _ ω).trans ω))),Pc (k-1) n,As (Bz 201 (.tmp 23) κ isAgg201 4 sizeOf201 11 (k-1) κ 201 n (λxi=>Cz (Je g n xi).1) κ ω),As (Uf 201 201 (.tmp 19) (.tmp 24) κ _ _ κ κ κ (Aao ((Je g n k).1) ((Je g n (k-1)).1)) (Aiq ((Je g n k).1) ((Je g n (k-1)).1))),trivial⟩ ·) (Ae 1 (Ff 25 ?_ ?_)))
 refine Ae 5 (gs (Bi (.osw 11 4 k (n-k)) (.read 11) (Qz 211 (.tmp 26) (some (.tmp 27)) none κ underlying211 11 4 n sizeOf201 201 (λxi=>Cz (Je g n xi).1) κ κ k n (.inr ⟨(.tmp 27),(k:Int),rfl,κ,ω⟩) (.inl ⟨rfl,rfl⟩) ω ω) ·) (Ae 10 (Vy [0,3,4,5] (λm s=>∃(kk k2:Nat) (gg:Nat->RQ),m=n-k2/\(1<=k2/\1<=kk/\kk<k+k2/\k+k2<=n)/\s=⟨[(0,.osl 11 4 n),(3,.int (kk:Int)),(4,.osw 11 4 k (n-k)),(5,.int ((k2:Nat):Int))],[(0,.box 33 [Dj f.o,hsA f,.int f.low,.int f.high]),(1,.box 62 [.int a.x,.int a.y,.int a.z]),(2,.box 62 [.int b.x,.int b.y,.int b.z]),(3,.box 94 [.bool (decide ((1:Int)<0)),.lit (.string (Dd (1:Int).natAbs))]),(11,.vec 201 4 n (λxi=>Cz (gg xi).1)),(5,.box 211 [.osl 11 4 n]),(6,.box 33 [Dj f.o,hsA f,.int f.low,.int f.high]),(8,.box 112 [.yld 7]),(10,.vec 23 1 (1+f.hn) (λxi=>Dj (Cm f xi)))],12,61⟩) (n-1) ⟨k,1,Je g n,rfl,⟨ω,ω,ω,ω⟩,κ⟩ ?_)))
 rintro _ _ ⟨kk,k2,gg,rfl,hF,rfl⟩ hJ5
 refine Ae 9 (Jf 32 (((k2:Nat):Int)<((n-k:Nat):Int)) (λhx60 hx60d=>?_) (λhx60 hx60d=>?_))
 refine Ae 6 (gs (Dg [(2,Dx (.osw 11 4 k (n-k)) k2,.none),(3,Cz (gg (k+k2)).1,(.read 11)),(6,.int ((k2-1:Nat):Int),.none),(7,Dx (.osw 11 4 k (n-k)) (k2-1),.none),(8,Cz (gg (k+(k2-1))).1,(.read 11)),(9,.bool (!(Aao ((gg (k+k2)).1) ((gg (k+(k2-1))).1))),.none)] [0,3,4,5,44] ⟨Pc k2 (n-k),As (Bz 201 (.tmp 37) κ isAgg201 4 sizeOf201 11 (k+k2) κ 201 n (λxi=>Cz (gg xi).1) κ ω),As (Bb (v:= .int .i64 (IntKind.wrap .i64 (((k2:Nat):Int)-1))) (v':= .int .i64 ((k2-1:Nat):Int)) _ κ rfl κ (λw=>by kernel_rfl) (congrArg (Value.int .i64) ((IntWalk.i64_in _ ω).trans ω))),Pc (k2-1) (n-k),As (Bz 201 (.tmp 42) κ isAgg201 4 sizeOf201 11 (k+(k2-1)) κ 201 n (λxi=>Cz (gg xi).1) κ ω),As (Xe 201 201 (.tmp 38) (.tmp 43) κ _ _ κ κ κ (Aao ((gg (k+k2)).1) ((gg (k+(k2-1))).1)) (Aiq ((gg (k+k2)).1) ((gg (k+(k2-1))).1))),trivial⟩ ·) (Ae 1 (Ff 44 ?_ ?_)))
 exact Ae 7 (gs (Iz k2 (n-k) ·) (gs (Bi (Cz (gg (k+k2)).1) (.read 11) (Bz 201 (.tmp 49) κ isAgg201 4 sizeOf201 11 (k+k2) κ 201 n (λxi=>Cz (gg xi).1) κ ω) ·) (gs (Iz kk n ·) (gs (Bi (.lit Go.undef) (.set 11 (.vec 201 4 n (λxi=>if xi=kk then Cz (gg (k+k2)).1 else (λxi=>Cz (gg xi).1) xi))) (Hz 201 (.tmp 51) (.tmp 50) κ 4 sizeOf201 11 kk κ 201 n (λxi=>Cz (gg xi).1) κ ω κ κ κ (Cz (gg (k+k2)).1) κ) ·) (Ae 2 (gs (vvx 11 201 4 n (λxi=>if xi=kk then Cz (gg (k+k2)).1 else (λxi=>Cz (gg xi).1) xi) (λxi=>Cz (AjL gg kk (gg (k+k2)) xi).1) (λx9 hx9=>by unfold AjL;split<;>rfl) ·) (Ae 2 (gs (Dm ((kk:Int)+1) ((kk+1:Nat):Int) ·) (Ae 6 (gs (Dm (((k2:Nat):Int)+1) ((k2+1:Nat):Int) ·) (Ae 2 (qS [0,3,4,5] (hJ5 _ _ (by omega:n-(k2+1)<n-k2) ⟨kk+1,k2+1,AjL gg kk (gg (k+k2)),rfl,⟨ω,ω,ω,ω⟩,rfl⟩)))))))))))))
 exact Ae 6 (gs (Dm (((k2:Nat):Int)+1) ((k2+1:Nat):Int) ·) (Ae 2 (qS [0,3,4,5] (hJ5 _ _ (by omega:n-(k2+1)<n-k2) ⟨kk,k2+1,gg,rfl,⟨ω,ω,ω,ω⟩,rfl⟩))))
 refine Ae 10 (gs (Bi (.osw 11 4 kk (n-kk)) (.read 11) (Qz 211 (.tmp 54) (some (.tmp 55)) none κ underlying211 11 4 n sizeOf201 201 (λxi=>Cz (gg xi).1) κ κ kk n (.inr ⟨(.tmp 55),(kk:Int),rfl,κ,ω⟩) (.inl ⟨rfl,rfl⟩) ω ω) ·) (gs (Bi (.lit (.tuple #[])) (.set 11 (.vec 201 4 n (λxi=>if xi<kk then (λxi=>Cz (gg xi).1) xi else .top))) (uA (.tmp 56) 211 #[211] κ rfl 11 4 kk (n-kk) n 201 201 (λxi=>Cz (gg xi).1) underlying211 (.agg #[.bool false,.string ⟨#[]⟩,.bool false,.string ⟨#[]⟩]) zeroValue201 rfl rfl κ κ ω) ·) (Ae 6 (gs (Bi (.osw 11 4 0 (kk-0)) (.read 11) (Qz 211 (.tmp 57) none (some (.tmp 58)) κ underlying211 11 4 n sizeOf201 201 (λxi=>if xi<kk then (λxi=>Cz (gg xi).1) xi else .top) κ κ 0 kk (.inl ⟨rfl,rfl⟩) (.inr ⟨(.tmp 58),(kk:Int),rfl,κ,ω⟩) ω ω) ·) (Ae 9 (Kl (Ae 3 (gs (vsh 11 201 4 n kk (λxi=>if xi<kk then (λxi=>Cz (gg xi).1) xi else .top) (λxi=>Cz (gg xi).1) ω (λi hi=>if_pos hi) ·) (Ae 18 (tfg [3,4,5,8,9,13,14,15] [(0,0),(1,1),(2,2),(3,3),(11,11),(5,5),(12,12)] 13 [(201,4,kk,(λxi=>Cz (gg xi).1)),(23,1,1+f.hn,(λxi=>Dj (Cm f xi)))] ⟨(Fe λ_ _=>rfl),(Fe λ_ _=>rfl),trivial⟩ (Vy [3,4,5,8,9,13,14,15] (λm s=>∃(q:Nat) (qe:Int),m=(kk-0)-q/\(1<=q)/\s=⟨[(3,.ptr 0 0),(4,.ptr 1 0),(5,.ptr 2 0),(8,.ptr 3 0),(9,.ptr 5 0),(13,.ptr 12 0),(14,.fn 143 [.ptr 12 0]),(15,.int (q:Int))],[(0,.box 33 [Dj f.o,hsA f,.int f.low,.int f.high]),(1,.box 62 [.int a.x,.int a.y,.int a.z]),(2,.box 62 [.int b.x,.int b.y,.int b.z]),(3,.box 94 [.bool (decide ((1:Int)<0)),.lit (.string (Dd (1:Int).natAbs))]),(11,.vec 201 4 kk (λxi=>Cz (gg xi).1)),(5,.box 211 [.osw 11 4 0 (kk-0)]),(12,.box 219 [.int qe])],13,131⟩) ((kk-0)-1) ⟨1,0,rfl,Nat.le_refl _,κ⟩ ?_)))))))))))
 rintro _ _ ⟨q,qe,rfl,hF,rfl⟩ hJ6
 refine Ae 9 (Jf 82 ((q:Int)<((kk-0:Nat):Int)) (λhx61 hx61d=>?_) (λhx61 hx61d=>?_))
 refine Ae 6 (Eh (jM ((gg (0+(q-1))).1) ((gg (0+q)).1)) λv62 hv62=>(gs (Dg [(2,.int ((q-1:Nat):Int),.none),(3,Dx (.osw 11 4 0 (kk-0)) (q-1),.none),(4,Cz (gg (0+(q-1))).1,(.read 11)),(7,Dx (.osw 11 4 0 (kk-0)) q,.none),(8,Cz (gg (0+q)).1,(.read 11)),(9,_,.none)] [3,4,5,8,9,13,14,15,16] ⟨As (Bb (v:= .int .i64 (IntKind.wrap .i64 ((q:Int)-1))) (v':= .int .i64 ((q-1:Nat):Int)) _ κ rfl κ (λw=>by kernel_rfl) (congrArg (Value.int .i64) ((IntWalk.i64_in _ ω).trans ω))),Pc (q-1) (kk-0),As (Bz 201 (.tmp 89) κ isAgg201 4 sizeOf201 11 (0+(q-1)) κ 201 kk (λxi=>Cz (gg xi).1) κ ω),Pc q (kk-0),As (Bz 201 (.tmp 93) κ isAgg201 4 sizeOf201 11 (0+q) κ 201 kk (λxi=>Cz (gg xi).1) κ ω),Bu hv62,trivial⟩ ·) (Ae 2 (Eh (jN (⟨⟨(gB (gT (gT v62 0) 0)),(gS (gT (gT v62 0) 1))⟩,⟨(gB (gT (gT v62 0) 2)),(gS (gT (gT v62 0) 3))⟩⟩) (⟨⟨decide ((1:Int)<0),Dd (1:Int).natAbs⟩,⟨decide ((2:Int)<0),Dd (2:Int).natAbs⟩⟩)) λv63 hv63=>(gs (Dg [(2,_,.none),(4,_,.none)] [3,4,5,8,9,13,14,15,18] ⟨Bu (Hk 2 δ δ),Bu hv63,trivial⟩ ·) (Ae 2 (Exists.elim (Po qe a.x (Ai (b.x-a.x)) (⟨⟨(gB (gT (gT v63 0) 0)),(gS (gT (gT v63 0) 1))⟩,⟨(gB (gT (gT v63 0) 2)),(gS (gT (gT v63 0) 3))⟩⟩)) λv64 hv64=>(Exists.elim (Po v64.2 a.y (Ai (b.y-a.y)) (⟨⟨(gB (gT (gT v63 0) 0)),(gS (gT (gT v63 0) 1))⟩,⟨(gB (gT (gT v63 0) 2)),(gS (gT (gT v63 0) 3))⟩⟩)) λv65 hv65=>(Exists.elim (sR v65.2 (⟨⟨(gB (gT v64.1 0)),(gS (gT v64.1 1))⟩,⟨(gB (gT v64.1 2)),(gS (gT v64.1 3))⟩⟩) (⟨⟨(gB (gT v65.1 0)),(gS (gT v65.1 1))⟩,⟨(gB (gT v65.1 2)),(gS (gT v65.1 3))⟩⟩)) λv66 hv66=>(gs (Dg [(9,.lit (.agg #[.bool (gB (gT v64.1 0)),.string (gS (gT v64.1 1)),.bool (gB (gT v64.1 2)),.string (gS (gT v64.1 3))]),(.setr [] 12 (.box 219 [.int v64.2]))),(19,.lit (.agg #[.bool (gB (gT v65.1 0)),.string (gS (gT v65.1 1)),.bool (gB (gT v65.1 2)),.string (gS (gT v65.1 3))]),(.setr [] 12 (.box 219 [.int v65.2]))),(20,.lit (.agg #[.bool (gB (gT v66.1 0)),.string (gS (gT v66.1 1)),.bool (gB (gT v66.1 2)),.string (gS (gT v66.1 3)),.bool (gB (gT v66.1 4)),.string (gS (gT v66.1 5))]),(.setr [] 12 (.box 219 [.int v66.2])))] [3,4,5,8,9,13,14,15,20] ⟨As (Bg (.tmp 106) 143 #[.tmp 108,.tmp 113,.tmp 114] #[3,3,201] κ [.ptr 12 0] κ (λ_ _=>by kernel_rfl) 12 [] κ 219 [.int .i64 qe] [.int .i64 v64.2] κ [] κ [] κ [.int a.x,.int (Ai (b.x-a.x)),.lit (.agg #[.bool (gB (gT (gT v63 0) 0)),.string (gS (gT (gT v63 0) 1)),.bool (gB (gT (gT v63 0) 2)),.string (gS (gT (gT v63 0) 3))]),.ptr 0 0] κ (.agg #[.bool (gB (gT v64.1 0)),.string (gS (gT v64.1 1)),.bool (gB (gT v64.1 2)),.string (gS (gT v64.1 3))]) hv64),As (Bg (.tmp 116) 143 #[.tmp 118,.tmp 123,.tmp 124] #[3,3,201] κ [.ptr 12 0] κ (λ_ _=>by kernel_rfl) 12 [] κ 219 [.int .i64 v64.2] [.int .i64 v65.2] κ [] κ [] κ [.int a.y,.int (Ai (b.y-a.y)),.lit (.agg #[.bool (gB (gT (gT v63 0) 0)),.string (gS (gT (gT v63 0) 1)),.bool (gB (gT (gT v63 0) 2)),.string (gS (gT (gT v63 0) 3))]),.ptr 0 0] κ (.agg #[.bool (gB (gT v65.1 0)),.string (gS (gT v65.1 1)),.bool (gB (gT v65.1 2)),.string (gS (gT v65.1 3))]) hv65),As (Bg (.func 148) 148 #[.tmp 13,.tmp 115,.tmp 125] #[219,201,201] κ [] κ (λ_ _=>by kernel_rfl) 12 [] κ 219 [.int .i64 v65.2] [.int .i64 v66.2] κ [] κ [] κ [.ptr 0 0,.lit (.agg #[.bool (gB (gT v64.1 0)),.string (gS (gT v64.1 1)),.bool (gB (gT v64.1 2)),.string (gS (gT v64.1 3))]),.lit (.agg #[.bool (gB (gT v65.1 0)),.string (gS (gT v65.1 1)),.bool (gB (gT v65.1 2)),.string (gS (gT v65.1 3))])] κ (.agg #[.bool (gB (gT v66.1 0)),.string (gS (gT v66.1 1)),.bool (gB (gT v66.1 2)),.string (gS (gT v66.1 3)),.bool (gB (gT v66.1 4)),.string (gS (gT v66.1 5))]) hv66),trivial⟩ ·) (Ae 5 (Exists.elim (sO v66.2 (⟨⟨(gB (gT v66.1 0)),(gS (gT v66.1 1))⟩,⟨(gB (gT v66.1 2)),(gS (gT v66.1 3))⟩,⟨(gB (gT v66.1 4)),(gS (gT v66.1 5))⟩⟩) f h0) λv67 hv67=>(gs (Bi (.bool (gB v67.1)) (.setr [15] 12 (.box 219 [.int v67.2])) (Bg (.func 149) 149 #[.tmp 127,.tmp 128] #[33,228] κ [] κ (λ_ _=>by kernel_rfl) 12 [15] κ 219 [.int .i64 v66.2] [.int .i64 v67.2] κ [(224,[.bool (gB (gT v66.1 0)),.lit (.string (gS (gT v66.1 1))),.bool (gB (gT v66.1 2)),.lit (.string (gS (gT v66.1 3))),.bool (gB (gT v66.1 4)),.lit (.string (gS (gT v66.1 5)))])] κ [(224,[.bool (gB (gT v66.1 0)),.lit (.string (gS (gT v66.1 1))),.bool (gB (gT v66.1 2)),.lit (.string (gS (gT v66.1 3))),.bool (gB (gT v66.1 4)),.lit (.string (gS (gT v66.1 5)))])] κ [Rp f,.fn 150 [.ptr 0 0,.ptr 1 0]] κ (.bool (gB v67.1)) hv67) ·) (Ae 3 (Ff 130 ?_ ?_)))))))))))))))
 exact Ae 13 (Bl)
 exact Ae 6 (gs (Dm ((q:Int)+1) ((q+1:Nat):Int) ·) (Ae 2 (Hd [3,4,5,8,9,13,14,15] [(0,0),(1,1),(2,2),(3,3),(11,11),(5,5),(12,12)] 13 [(201,4,kk,(λxi=>Cz (gg xi).1))] ⟨(Fe λ_ _=>rfl),trivial⟩ (hJ6 _ _ (by omega:(kk-0)-(q+1)<(kk-0)-q) ⟨q+1,v67.2,rfl,ω,rfl⟩))))
 exact Ae 13 (Bl)
 exact Ae 6 (gs (Dm ((k:Int)+1) ((k+1:Nat):Int) ·) (Ae 2 (qS [0,3] (hJ4 _ _ (by omega:n-(k+1)<n-k) ⟨k+1,rfl,⟨ω,ω⟩,rfl⟩))))
 refine Ae 13 (Kl (Ae 21 (tfg [3,4,5,8,9,13,14,15] [(0,0),(1,1),(2,2),(3,3),(11,11),(5,5),(12,12)] 13 [(201,4,n,(λxi=>Cz (Je g n xi).1)),(23,1,1+f.hn,(λxi=>Dj (Cm f xi)))] ⟨(Fe λ_ _=>rfl),(Fe λ_ _=>rfl),trivial⟩ (Vy [3,4,5,8,9,13,14,15] (λm s=>∃(q:Nat) (qe:Int),m=n-q/\(1<=q)/\s=⟨[(3,.ptr 0 0),(4,.ptr 1 0),(5,.ptr 2 0),(8,.ptr 3 0),(9,.ptr 5 0),(13,.ptr 12 0),(14,.fn 143 [.ptr 12 0]),(15,.int (q:Int))],[(0,.box 33 [Dj f.o,hsA f,.int f.low,.int f.high]),(1,.box 62 [.int a.x,.int a.y,.int a.z]),(2,.box 62 [.int b.x,.int b.y,.int b.z]),(3,.box 94 [.bool (decide ((1:Int)<0)),.lit (.string (Dd (1:Int).natAbs))]),(11,.vec 201 4 n (λxi=>Cz (Je g n xi).1)),(5,.box 211 [.osl 11 4 n]),(12,.box 219 [.int qe])],13,131⟩) (n-1) ⟨1,0,rfl,Nat.le_refl _,κ⟩ ?_))))
 rintro _ _ ⟨q,qe,rfl,hF,rfl⟩ hJ7
 refine Ae 9 (Jf 82 ((q:Int)<(n:Int)) (λhx68 hx68d=>?_) (λhx68 hx68d=>?_))
 refine Ae 6 (Eh (jM ((Je g n (q-1)).1) ((Je g n q).1)) λv69 hv69=>(gs (Dg [(2,.int ((q-1:Nat):Int),.none),(3,Dx (.osl 11 4 n) (q-1),.none),(4,Cz (Je g n (q-1)).1,(.read 11)),(7,Dx (.osl 11 4 n) q,.none),(8,Cz (Je g n q).1,(.read 11)),(9,_,.none)] [3,4,5,8,9,13,14,15,16] ⟨As (Bb (v:= .int .i64 (IntKind.wrap .i64 ((q:Int)-1))) (v':= .int .i64 ((q-1:Nat):Int)) _ κ rfl κ (λw=>by kernel_rfl) (congrArg (Value.int .i64) ((IntWalk.i64_in _ ω).trans ω))),Pc (q-1) n,As (Bz 201 (.tmp 89) κ isAgg201 4 sizeOf201 11 (q-1) κ 201 n (λxi=>Cz (Je g n xi).1) κ ω),Pc q n,As (Bz 201 (.tmp 93) κ isAgg201 4 sizeOf201 11 q κ 201 n (λxi=>Cz (Je g n xi).1) κ ω),Bu hv69,trivial⟩ ·) (Ae 2 (Eh (jN (⟨⟨(gB (gT (gT v69 0) 0)),(gS (gT (gT v69 0) 1))⟩,⟨(gB (gT (gT v69 0) 2)),(gS (gT (gT v69 0) 3))⟩⟩) (⟨⟨decide ((1:Int)<0),Dd (1:Int).natAbs⟩,⟨decide ((2:Int)<0),Dd (2:Int).natAbs⟩⟩)) λv70 hv70=>(gs (Dg [(2,_,.none),(4,_,.none)] [3,4,5,8,9,13,14,15,18] ⟨Bu (Hk 2 δ δ),Bu hv70,trivial⟩ ·) (Ae 2 (Exists.elim (Po qe a.x (Ai (b.x-a.x)) (⟨⟨(gB (gT (gT v70 0) 0)),(gS (gT (gT v70 0) 1))⟩,⟨(gB (gT (gT v70 0) 2)),(gS (gT (gT v70 0) 3))⟩⟩)) λv71 hv71=>(Exists.elim (Po v71.2 a.y (Ai (b.y-a.y)) (⟨⟨(gB (gT (gT v70 0) 0)),(gS (gT (gT v70 0) 1))⟩,⟨(gB (gT (gT v70 0) 2)),(gS (gT (gT v70 0) 3))⟩⟩)) λv72 hv72=>(Exists.elim (sR v72.2 (⟨⟨(gB (gT v71.1 0)),(gS (gT v71.1 1))⟩,⟨(gB (gT v71.1 2)),(gS (gT v71.1 3))⟩⟩) (⟨⟨(gB (gT v72.1 0)),(gS (gT v72.1 1))⟩,⟨(gB (gT v72.1 2)),(gS (gT v72.1 3))⟩⟩)) λv73 hv73=>(gs (Dg [(9,.lit (.agg #[.bool (gB (gT v71.1 0)),.string (gS (gT v71.1 1)),.bool (gB (gT v71.1 2)),.string (gS (gT v71.1 3))]),(.setr [] 12 (.box 219 [.int v71.2]))),(19,.lit (.agg #[.bool (gB (gT v72.1 0)),.string (gS (gT v72.1 1)),.bool (gB (gT v72.1 2)),.string (gS (gT v72.1 3))]),(.setr [] 12 (.box 219 [.int v72.2]))),(20,.lit (.agg #[.bool (gB (gT v73.1 0)),.string (gS (gT v73.1 1)),.bool (gB (gT v73.1 2)),.string (gS (gT v73.1 3)),.bool (gB (gT v73.1 4)),.string (gS (gT v73.1 5))]),(.setr [] 12 (.box 219 [.int v73.2])))] [3,4,5,8,9,13,14,15,20] ⟨As (Bg (.tmp 106) 143 #[.tmp 108,.tmp 113,.tmp 114] #[3,3,201] κ [.ptr 12 0] κ (λ_ _=>by kernel_rfl) 12 [] κ 219 [.int .i64 qe] [.int .i64 v71.2] κ [] κ [] κ [.int a.x,.int (Ai (b.x-a.x)),.lit (.agg #[.bool (gB (gT (gT v70 0) 0)),.string (gS (gT (gT v70 0) 1)),.bool (gB (gT (gT v70 0) 2)),.string (gS (gT (gT v70 0) 3))]),.ptr 0 0] κ (.agg #[.bool (gB (gT v71.1 0)),.string (gS (gT v71.1 1)),.bool (gB (gT v71.1 2)),.string (gS (gT v71.1 3))]) hv71),As (Bg (.tmp 116) 143 #[.tmp 118,.tmp 123,.tmp 124] #[3,3,201] κ [.ptr 12 0] κ (λ_ _=>by kernel_rfl) 12 [] κ 219 [.int .i64 v71.2] [.int .i64 v72.2] κ [] κ [] κ [.int a.y,.int (Ai (b.y-a.y)),.lit (.agg #[.bool (gB (gT (gT v70 0) 0)),.string (gS (gT (gT v70 0) 1)),.bool (gB (gT (gT v70 0) 2)),.string (gS (gT (gT v70 0) 3))]),.ptr 0 0] κ (.agg #[.bool (gB (gT v72.1 0)),.string (gS (gT v72.1 1)),.bool (gB (gT v72.1 2)),.string (gS (gT v72.1 3))]) hv72),As (Bg (.func 148) 148 #[.tmp 13,.tmp 115,.tmp 125] #[219,201,201] κ [] κ (λ_ _=>by kernel_rfl) 12 [] κ 219 [.int .i64 v72.2] [.int .i64 v73.2] κ [] κ [] κ [.ptr 0 0,.lit (.agg #[.bool (gB (gT v71.1 0)),.string (gS (gT v71.1 1)),.bool (gB (gT v71.1 2)),.string (gS (gT v71.1 3))]),.lit (.agg #[.bool (gB (gT v72.1 0)),.string (gS (gT v72.1 1)),.bool (gB (gT v72.1 2)),.string (gS (gT v72.1 3))])] κ (.agg #[.bool (gB (gT v73.1 0)),.string (gS (gT v73.1 1)),.bool (gB (gT v73.1 2)),.string (gS (gT v73.1 3)),.bool (gB (gT v73.1 4)),.string (gS (gT v73.1 5))]) hv73),trivial⟩ ·) (Ae 5 (Exists.elim (sO v73.2 (⟨⟨(gB (gT v73.1 0)),(gS (gT v73.1 1))⟩,⟨(gB (gT v73.1 2)),(gS (gT v73.1 3))⟩,⟨(gB (gT v73.1 4)),(gS (gT v73.1 5))⟩⟩) f h0) λv74 hv74=>(gs (Bi (.bool (gB v74.1)) (.setr [15] 12 (.box 219 [.int v74.2])) (Bg (.func 149) 149 #[.tmp 127,.tmp 128] #[33,228] κ [] κ (λ_ _=>by kernel_rfl) 12 [15] κ 219 [.int .i64 v73.2] [.int .i64 v74.2] κ [(224,[.bool (gB (gT v73.1 0)),.lit (.string (gS (gT v73.1 1))),.bool (gB (gT v73.1 2)),.lit (.string (gS (gT v73.1 3))),.bool (gB (gT v73.1 4)),.lit (.string (gS (gT v73.1 5)))])] κ [(224,[.bool (gB (gT v73.1 0)),.lit (.string (gS (gT v73.1 1))),.bool (gB (gT v73.1 2)),.lit (.string (gS (gT v73.1 3))),.bool (gB (gT v73.1 4)),.lit (.string (gS (gT v73.1 5)))])] κ [Rp f,.fn 150 [.ptr 0 0,.ptr 1 0]] κ (.bool (gB v74.1)) hv74) ·) (Ae 3 (Ff 130 ?_ ?_)))))))))))))))
 exact Ae 13 (Bl)
 exact Ae 6 (gs (Dm ((q:Int)+1) ((q+1:Nat):Int) ·) (Ae 2 (Hd [3,4,5,8,9,13,14,15] [(0,0),(1,1),(2,2),(3,3),(11,11),(5,5),(12,12)] 13 [(201,4,n,(λxi=>Cz (Je g n xi).1))] ⟨(Fe λ_ _=>rfl),trivial⟩ (hJ7 _ _ (by omega:n-(q+1)<n-q) ⟨q+1,v74.2,rfl,ω,rfl⟩))))
 exact Ae 13 (Bl)
 refine Ff 49 ?_ ?_
 refine Ae 8 (Ff 55 ?_ ?_)
 exact Ae 9 (Bl)
 exact Uh [3,4,5,6,7,55] hS6
 exact Ae 8 (Uh [3,4,5,6,7,55] hS6)
 exact Ae 20 (Bl)
end Go.Proofs.YtikinphpaiajfaaGreat
namespace Go.Proofs.YtikinphpaiajfaaGreat
open Go.RowKit
theorem Lb:Fr:=λf a b h=>Aaz f a b h
theorem pK {b:Bool} (h:AV.bool b= .bool true):b=true:=by injection h with h;injection h
theorem iA (f:Ja):∃r,(Gm [.one .b] r/\(r= .bool true->f.o.n<=8/\f.hn<=2/\∀q,q<f.hn->(f.h q).n<=8))/\AF Tryz.prog 6 [Rp f] r:=by
 refine Cd Tryz.func6 rfl ?_
 refine Ae 13 (AhR [1,3] 3 (λi=>∀q,q<i->(f.h q).n<=8) (λi=>⟨[(1,.ptr 0 0),(3,.int (i:Int))],[(0,.box 33 [Dj f.o,hsA f,.int f.low,.int f.high])],1,32⟩) (λq hq=>absurd hq (Nat.not_lt_zero q)) (λi hin hFi hJ1=>?_))
 refine Ae 9 (Jf 9 ((i:Int)<(f.hn:Int)) (λhx1 hx1d=>?_) (λhx1 hx1d=>?_))
 refine Ae 5 (Jf 12 ((i:Int)<3) (λhx2 hx2d=>?_) (λhx2 hx2d=>?_))
 refine Ae 10 (gs (Iz i f.hn ·) (Ae 5 (Jf 21 ((8:Int)<((f.h i).n:Int)) (λhx3 hx3d=>?_) (λhx3 hx3d=>?_))))
 exact Ae 12 (Fd (.bool false) (λh=>by cases h))
 exact Ae 6 (gs (Dm ((i:Int)+1) ((i+1:Nat):Int) ·) (Ae 2 (qS [1,3] (hJ1 ω (λq hq=>(Nat.lt_or_ge q i).elim (hFi q) λg9=>by(obtain rfl:q=i:=(ω));omega)))))
 refine Ae 13 (Jf 26 ((f.o.n:Int)<=8) (λhx4 hx4d=>?_) (λhx4 hx4d=>?_))
 exact Ae 9 (Fd (.bool (decide ((f.hn:Int)<=2))) (λh=>by have h9:=of_decide_eq_true (pK h);exact⟨ω,ω,λq hq=>hFi q ω⟩))
 exact Ae 9 (Fd (.bool false) (λh=>by cases h))
 refine Ae 18 (Jf 26 ((f.o.n:Int)<=8) (λhx5 hx5d=>?_) (λhx5 hx5d=>?_))
 exact Ae 9 (Fd (.bool (decide ((f.hn:Int)<=2))) (λh=>by have h9:=of_decide_eq_true (pK h);exact⟨ω,ω,λq hq=>hFi q ω⟩))
 exact Ae 9 (Fd (.bool false) (λh=>by cases h))
noncomputable def kU (f:Ja):Value:=chP 6 [.one .b] [Rp f] λr=>r= .bool true->f.o.n<=8/\f.hn<=2/\∀q,q<f.hn->(f.h q).n<=8
theorem yY (f:Ja):AF Tryz.prog 6 [Rp f] (.lit (Ht [.one .b] (kU f))):=(Nu (iA f)).1
theorem Afc {f:Ja} (hz:∀i,f.hn<=i->(f.h i).n=0) (h:gB (kU f)=true):Ty f:=by
 have h1:=(Nu (iA f)).2 (congrArg AV.bool h)
 refine⟨ω,ω,λi=>?_⟩
 by_cases hi:i<f.hn
 have:=h1.2.2 i hi
 omega
 have:=hz i ω
 omega
theorem bF (p:Pr) (d:De) (c:Cs) (side:Int) (f:Ja) (hl:∀a∈p.acts,Cc a.len) (hac:Cc d.across) (hdn:Cc d.down) (hgr:Cc d.ground) (hcs:Sh c) (hsd:Cc side) (hz:∀i,f.hn<=i->(f.h i).n=0):AF Tryz.prog 3 [Hc p,Jt d,Nt c,.int side,Rp f] (.bool true):=by
 refine Be Tryz.func3 rfl λB D0 hA0=>?_
 refine Ab 13 (Aw (Acj p 4 5 ⟨δ,δ⟩ ⟨δ,δ⟩) (Ab 2 (Rx 30 (bP (AiF p 4 5)) (λhx1=>?_) (λhx1=>?_))))
 ·
  refine Ab 1 (Aw (Ack d) (Ab 3 (Xy 35 ((d.sides.length:Int)<=17) (λhx2 hx2d=>?_) (λhx2 hx2d=>?_))))
  ·
   refine Ab 1 (Aw (yY f) (Ab 4 (Rx 39 (gB (kU f)) (λhx3=>?_) (λhx3=>?_))))
   ·
    refine Ab 3 ?_
    have hp:Lf p:=Aji (Fx hx1) δ δ hl
    have hd:Ru d:=⟨ω,hac,hdn,hgr⟩
    have hfok:Ty f:=Afc hz hx3
    refine Ab 7 ?_
    refine Ct (bP (Ej p c)) (λhx4=>?_) (λhx4=>?_)
    ·
     refine Ct (bP (Ev d)) (λhx5=>?_) (λhx5=>?_)
     ·
      refine Ct (gB (Gt f)) (λhx6=>?_) (λhx6=>?_)
      ·
       refine Aw (Zc p d c side f hp hd hcs hsd Lb hfok (Fx hx4) (Fx hx5) hx6) (Ab 13 (Aw (mW p d c f hp hd hcs Lb hfok (Fx hx4) (Fx hx5) hx6) (Ab 12 (Aw (Qh p c hp hcs) (Ab 2 (Dy 62 (!bP (Ej p c)) false (nt hx4) (Ab 1 (Aw (Sa d hd) (Ab 3 (Dy 67 (!bP (Ev d)) false (nt hx5) (Ab 1 (Aw (Ir f hfok) (Ab 4 (Dy 71 (!(gB (Gt f))) false (nt hx6) (Ab 3 ?_)))))))))))))))
       have hd1:d.sides.length<=16/\1<=d.sides.length:=⟨(Fx hx5).1.2.1,(Fx hx5).1.1⟩
       refine Ab 11 (Dm ((d.sides.length:Int)-1) ((d.sides.length:Int)-1) (Ab 4 (vlp [3,5,6,7,9,11,12,13,14,15,16] (λm s=>∃(j:Nat) (x:Int),m=j+1/\(j<=d.sides.length/\x=Zz (xV p d c f) j (d.sides.length-j))/\s=⟨[(3,.int side),(5,.ptr 0 0),(6,.ptr 1 0),(7,.ptr 2 0),(9,.ptr 3 0),(11,.bool (oC p d c side f)),(12,.int (sP p d c side f)),(13,.int (cT (Kf p d c f))),(14,.int (cS (Kf p d c f))),(15,.int x),(16,.int ((j:Int)-1))],[(0,.box 26 [Nf p.names,Ts p.homes,Lv p.acts]),(1,.box 28 [Km d.sides,.int d.across,.int d.down,.int d.ground]),(2,.box 30 [.int c.craft,.int c.act]),(3,.box 33 [Dj f.o,hsA f,.int f.low,.int f.high])],4,183⟩) (d.sides.length+1) ⟨d.sides.length,-1,rfl,⟨Nat.le_refl _,by rw[Nat.sub_self];rfl⟩,κ⟩ ?_)))
       rintro _ _ ⟨j,x,rfl,hF,rfl⟩ J1 hJ1
       refine Ab 7 (He 94 ((0:Int)<=(j:Int)-1) (λhx7 hx7d=>?_) (λhx7 hx7d=>?_))
       ·
        refine Ab 11 ?_
        refine Ct (bP (Jd p d c ((j:Int)-1))) (λhx8=>?_) (λhx8=>?_)
        ·
         refine Aw (Wc p d c ((j:Int)-1) hp hd hcs ω (Fx hx4) (Fx hx5) (Fx hx8)) (Ab 20 (Xy 111 ((Jn p d c ((j:Int)-1)).2=0) (λhx9 hx9d=>?_) (λhx9 hx9d=>?_)))
         ·
          refine Ab 7 (Aw (Uy f ((Jn p d c ((j:Int)-1)).1) ⟨Lb,hfok,Bj.law _ _ _ _ _ _ _⟩) (Ab 12 (He 120 ((gI (gT (Ge f ((Jn p d c ((j:Int)-1)).1)) 1))=0) (λhx10 hx10d=>?_) (λhx10 hx10d=>?_))))
          ·
           refine Ab 4 (vsb 122 (gB (gT (Ge f ((Jn p d c ((j:Int)-1)).1)) 0)) (λhx11=>?_) (λhx11=>?_))
           ·
            exact Ab 9 (Dm ((j:Int)-1-1) (((j-1:Nat):Int)-1) (Ab 2 (eX [3,5,6,7,9,11,12,13,14,15,16] (hJ1 _ _ (by omega:j-1+1<j+1) ⟨j-1,(j:Int)-1,rfl,⟨ω,AgM ω hF.1 ((tZ hx8 hx9).trans (by rw[hx11,hx10];rfl))⟩,rfl⟩))))
           ·
            exact Ab 6 (Dm ((j:Int)-1-1) (((j-1:Nat):Int)-1) (Ab 2 (eX [3,5,6,7,9,11,12,13,14,15,16] (hJ1 _ _ (by omega:j-1+1<j+1) ⟨j-1,x,rfl,⟨ω,aV ω hF.1 ((tZ hx8 hx9).trans (by rw[hx11,hx10];rfl)) hF.2⟩,rfl⟩))))
          ·
           exact Ab 10 (Dm ((j:Int)-1-1) (((j-1:Nat):Int)-1) (Ab 2 (eX [3,5,6,7,9,11,12,13,14,15,16] (hJ1 _ _ (by omega:j-1+1<j+1) ⟨j-1,x,rfl,⟨ω,aV ω hF.1 ((tZ hx8 hx9).trans (by rw[hx10,Bool.and_false])) hF.2⟩,rfl⟩))))
         ·
          exact Ab 7 (Dm ((j:Int)-1-1) (((j-1:Nat):Int)-1) (Ab 2 (eX [3,5,6,7,9,11,12,13,14,15,16] (hJ1 _ _ (by omega:j-1+1<j+1) ⟨j-1,x,rfl,⟨ω,aV ω hF.1 (Ahh hx8 hx9) hF.2⟩,rfl⟩))))
        ·
         exact Aw (Wb p d c ((j:Int)-1) hp hd hcs ω (Fx hx4) (Fx hx5) (Qo hx8)) (Ab 27 (Dm ((j:Int)-1-1) (((j-1:Nat):Int)-1) (Ab 2 (eX [3,5,6,7,9,11,12,13,14,15,16] (hJ1 _ _ (by omega:j-1+1<j+1) ⟨j-1,x,rfl,⟨ω,aV ω hF.1 (Ae9 hx8) hF.2⟩,rfl⟩)))))
       ·
        refine Ab 6 ?_
        obtain rfl:x=Kf p d c f:=by have h9:=hF.2;rw[show j=0 by omega] at h9;exact h9
        refine Ab 6 ?_
        refine Ct (bP (Jd p d c side)) (λhx12=>?_) (λhx12=>?_)
        ·
         refine Aw (Wc p d c side hp hd hcs ω (Fx hx4) (Fx hx5) (Fx hx12)) (Ab 23 (Xy 141 ((Jn p d c side).2=0) (λhx13 hx13d=>?_) (λhx13 hx13d=>?_)))
         ·
          refine Ab 5 (Aw (Uy f ((Jn p d c side).1) ⟨Lb,hfok,Bj.law _ _ _ _ _ _ _⟩) (Ab 11 (Mm (.bool (!decide ((oC p d c side f)=(gB (gT (Ge f ((Jn p d c side).1)) 0))))) (.bool (!decide ((oC p d c side f)=(gB (gT (Ge f ((Jn p d c side).1)) 0))))) (Ab 1 (Dy 157 (!decide ((oC p d c side f)=(gB (gT (Ge f ((Jn p d c side).1)) 0)))) false (congrArg (!·) (decide_eq_true (oD f hx12 (of_decide_eq_true hx13)).1)) (Ab 6 (Dy 161 (!decide ((sP p d c side f)=(gI (gT (Ge f ((Jn p d c side).1)) 1)))) false (congrArg (!·) (decide_eq_true (oD f hx12 (of_decide_eq_true hx13)).2)) (Ab 10 (He 163 ((Kf p d c f)<0) (λhx14 hx14d=>?_) (λhx14 hx14d=>?_))))))))))
          ·
           exact Ab 6 (Dy 166 (decide ((cT (Kf p d c f))=0)) true (decide_eq_true (if_pos (of_decide_eq_true hx14))) (Ab 4 (Dy 170 (decide ((cS (Kf p d c f))=9)) true (decide_eq_true (if_pos (of_decide_eq_true hx14))) (Aw Fk (Ab 6 (Cu))))))
          ·
           exact Ab 9 (Dy 176 (decide ((cT (Kf p d c f))=(Kf p d c f))) true (decide_eq_true (if_neg (of_decide_eq_false hx14))) (Ab 4 (Dy 180 (decide ((cS (Kf p d c f))=0)) true (decide_eq_true (if_neg (of_decide_eq_false hx14))) (Aw Fk (Ab 5 (Cu))))))
         ·
          refine Ab 5 (Dy 143 (oC p d c side f) false ((jX f hx12 (of_decide_eq_false hx13)).1) (Ab 6 (Dy 147 (!decide ((sP p d c side f)=(Jn p d c side).2)) false (congrArg (!·) (decide_eq_true (jX f hx12 (of_decide_eq_false hx13)).2)) (Ab 10 (He 163 ((Kf p d c f)<0) (λhx15 hx15d=>?_) (λhx15 hx15d=>?_))))))
          ·
           exact Ab 6 (Dy 166 (decide ((cT (Kf p d c f))=0)) true (decide_eq_true (if_pos (of_decide_eq_true hx15))) (Ab 4 (Dy 170 (decide ((cS (Kf p d c f))=9)) true (decide_eq_true (if_pos (of_decide_eq_true hx15))) (Aw Fk (Ab 6 (Cu))))))
          ·
           exact Ab 9 (Dy 176 (decide ((cT (Kf p d c f))=(Kf p d c f))) true (decide_eq_true (if_neg (of_decide_eq_false hx15))) (Ab 4 (Dy 180 (decide ((cS (Kf p d c f))=0)) true (decide_eq_true (if_neg (of_decide_eq_false hx15))) (Aw Fk (Ab 5 (Cu))))))
        ·
         refine Aw (Wb p d c side hp hd hcs ω (Fx hx4) (Fx hx5) (Qo hx12)) (Ab 21 (Dy 136 (oC p d c side f) false ((aP f hx12).1) (Ab 5 (Dy 139 (!decide ((sP p d c side f)=9)) false (congrArg (!·) (decide_eq_true (aP f hx12).2)) (Ab 10 (He 163 ((Kf p d c f)<0) (λhx16 hx16d=>?_) (λhx16 hx16d=>?_)))))))
         ·
          exact Ab 6 (Dy 166 (decide ((cT (Kf p d c f))=0)) true (decide_eq_true (if_pos (of_decide_eq_true hx16))) (Ab 4 (Dy 170 (decide ((cS (Kf p d c f))=9)) true (decide_eq_true (if_pos (of_decide_eq_true hx16))) (Aw Fk (Ab 6 (Cu))))))
         ·
          exact Ab 9 (Dy 176 (decide ((cT (Kf p d c f))=(Kf p d c f))) true (decide_eq_true (if_neg (of_decide_eq_false hx16))) (Ab 4 (Dy 180 (decide ((cS (Kf p d c f))=0)) true (decide_eq_true (if_neg (of_decide_eq_false hx16))) (Aw Fk (Ab 5 (Cu))))))
      ·
       exact Aw (Qe p d c side f hp hd hcs hsd Lb hfok (λg=>by have h9:=g.2.2;rw[hx6] at h9;cases h9)) (Ab 13 (Aw (Qf p d c f hp hd hcs Lb hfok (λg=>by have h9:=g.2.2;rw[hx6] at h9;cases h9)) (Ab 12 (Aw (Qh p c hp hcs) (Ab 2 (Dy 62 (!bP (Ej p c)) false (nt hx4) (Ab 1 (Aw (Sa d hd) (Ab 3 (Dy 67 (!bP (Ev d)) false (nt hx5) (Ab 1 (Aw (Ir f hfok) (Ab 4 (Dy 71 (!(gB (Gt f))) true (nf hx6) (Ab 18 (Aw Fk (Ab 6 (Cu))))))))))))))))))
     ·
      exact Aw (Qe p d c side f hp hd hcs hsd Lb hfok (λg=>Qo hx5 g.2.1)) (Ab 13 (Aw (Qf p d c f hp hd hcs Lb hfok (λg=>Qo hx5 g.2.1)) (Ab 12 (Aw (Qh p c hp hcs) (Ab 2 (Dy 62 (!bP (Ej p c)) false (nt hx4) (Ab 1 (Aw (Sa d hd) (Ab 3 (Dy 67 (!bP (Ev d)) true (nf hx5) (Ab 24 (Aw Fk (Ab 6 (Cu))))))))))))))
    ·
     exact Aw (Qe p d c side f hp hd hcs hsd Lb hfok (λg=>Qo hx4 g.1)) (Ab 13 (Aw (Qf p d c f hp hd hcs Lb hfok (λg=>Qo hx4 g.1)) (Ab 12 (Aw (Qh p c hp hcs) (Ab 2 (Dy 62 (!bP (Ej p c)) true (nf hx4) (Ab 29 (Aw Fk (Ab 6 (Cu))))))))))
   ·
    exact Ab 3 (Aw Fk (Ab 5 (Cu)))
  ·
   exact Ab 9 (Aw Fk (Ab 5 (Cu)))
 ·
  exact Ab 14 (Aw Fk (Ab 5 (Cu)))
end Go.Proofs.YtikinphpaiajfaaGreat
namespace Go.Proofs.YtikinphpaiajfaaGreat.Open
open Go.ChangeShapes Go.WideShapes Go.ChangeAt Go.RowKit Go.Deep
section
variable {H:Type} {enc:TypeId×Value->H} {W:World}
def AiI (W:World) (x:AV) (v:Value):Prop:=∀E:Bc,E.w=W->(∀b,b<W.heap.size->E.D b)->VR E x v
theorem yD {a0:Option Addr} {l0 c0 fuel:Nat} {y:DataW H×List MemPlace} (h:DataW.trod enc Tryz.prog W 0 (λ_=>true) true fuel 23 [.slice a0 l0 c0]=some y):∃l:Vs,AiI W (Dj l) (.slice a0 l0 c0):=by
 obtain⟨lh,g1,g2,g3,_⟩:=Kt Tryz.underlying23 wQ δ h
 obtain⟨Hm,H1,H2⟩:=Wy (cells:=λv:V3=>[.int .i64 v.x,.int .i64 v.y,.int .i64 v.z]) lh (λcs hc=>by obtain⟨hl,n,y,ht⟩:=g2 cs hc;exact Xg hl ht)
 have hL:Hm.length=l0:=by omega
 subst hL
 have g3':Ce W 0 W.heap.size 3 (.slice a0 Hm.length c0) Hm.length (Ic Hm):=by unfold Ic;rw[<-H2];exact g3
 exact⟨⟨Hm.length,λi=>Hm.getD i V3.zero⟩,λE hw hD=>mB g3' hw λb hb=>hD b hb.2⟩
theorem oM:∀(l:List (List Value)) (_:∀cs∈l,cs.length=1) (i:Nat),i<l.length->l.flatten.getD (i*1+0) undef=(l.getD i []).getD 0 undef
 |[],_,i,h=>absurd h (Nat.not_lt_zero i)
 |cs::l,h,0,_=>by
  match cs,h cs (by simp) with
  |[a],_=>rfl
 |cs::l,h,i+1,hi=>by
  have ih:=oM l (λc hc=>h c (by simp[hc])) i (by simpa using hi)
  match cs,h cs (by simp) with
  |[a],_=>simpa using ih
theorem open_fence {v:Value} {d:DataW H} {p:List MemPlace} {base:Nat} (hv:Value.okWide Tryz.prog W .any base 33 v) (h:DataW.Trod enc Tryz.prog W 0 (λ_=>true) true 33 v d p):
  ∃f:Ja,(∀i,f.hn<=i->(f.h i).n=0)/\AiI W (Rp f) v:=by
 obtain⟨v0,v1,v2,v3,y0,y1,y2,y3,n,rfl,_,_,h0,h1,h2,h3⟩:=Go.Joins.open_agg4 Tryz.underlying33 κ κ hv h
 obtain⟨a0,l0,c0,e0⟩:=Go.Joins.slice_form Tryz.underlying23 h0
 obtain rfl:v0= .slice a0 l0 c0:=by simpa using e0
 obtain⟨a1,l1,c1,e1⟩:=Go.Joins.slice_form Tryz.underlying31 h1
 obtain rfl:v1= .slice a1 l1 c1:=by simpa using e1
 obtain⟨k2,e2,f2⟩:=Gw h2
 obtain rfl:v2= .int .i64 k2:=by simpa using e2
 obtain⟨k3,e3,f3⟩:=Gw h3
 obtain rfl:v3= .int .i64 k3:=by simpa using e3
 obtain⟨o,ho⟩:=yD h0
 obtain⟨lh,g1,g2,g3,_⟩:=Kt Tryz.underlying31 AiW δ h1
 have hk:∀i,∃q:Vs,(i<l1->AiI W (Dj q) (lh.flatten.getD (i*1+0) undef))/\(l1<=i->q.n=0):=λi=>by
  by_cases hi:i<l1
  have hi':i<lh.length:=by omega
  obtain⟨hl,m,y,ht⟩:=g2 lh[i] (List.getElem_mem hi')
  obtain⟨a,c,k,e⟩:=Go.Joins.slice_form Tryz.underlying23 ht
  rw[e] at ht
  obtain⟨q,hq⟩:=yD ht
  refine⟨q,λ_=>?_,λh=>absurd hi ω⟩
  rw[oM lh (λcs hc=>(g2 cs hc).1) i hi',List.getD_eq_getElem?_getD (l:=lh),List.getElem?_eq_getElem hi',Option.getD_some,e]
  exact hq
  exact⟨⟨0,λ_=>V3.zero⟩,λh=>absurd h hi,λ_=>rfl⟩
 obtain⟨hh,hhs⟩:=Classical.axiomOfChoice hk
 have hol:∀E:Bc,E.w=W->(∀b,b<W.heap.size->E.D b)->VR E (.sl 1 l1 λi=>Dj (hh i)) (.slice a1 l1 c1):=λE hw hD=>Ok g3 hw (λb hb=>hD b hb.2) λi j hi hj=>by
  obtain rfl:j=0:=by omega
  exact(hhs i).1 hi E.fz hw hD
 refine⟨⟨o,l1,hh,k2,k3⟩,λi hi=>(hhs i).2 hi,λE hw hD=> .agg _ _ _ rfl λi hi=>?_⟩
 have h4:i<4:=hi
 match i,h4 with
 |0,_=>exact ho E hw hD
 |1,_=>exact hol E hw hD
 |2,_=>exact .lit _ _
 |3,_=>exact .lit _ _
end
end Go.Proofs.YtikinphpaiajfaaGreat.Open
namespace Go.Proofs.YtikinphpaiajfaaGreat.EC
open Go.ChangeShapes Go.WideShapes Go.ChangeAt Go.RowKit Go.Deep
theorem own:ownKnob Tryz.prog.godebug=none:=by kernel_rfl
theorem aX:laidOutB Tryz.prog=true:=by kernel_rfl
theorem Ajy (os:Os) (started:os.Started) (H:Type) (enc:TypeId×Value->H):
  ReturnsInHanded {} Tryz.checked os 3 .any (λw args=>Rows.escapeClearSpec.pre enc Tryz.prog Tryz.f3 [] false w args/\sizedMet enc Tryz.prog Tryz.f3 (OpenSpec.ofChange Rows.escapeClearSpec) false w args)
   (Rows.escapeClearSpec.post enc Tryz.prog Tryz.f3 false true false false):=by
 refine returnsInHanded_of_change (C:=Tryz.checked) own started κ Tryz.func3
  (by
   obtain⟨w,tape,i,h1,h2,h3,h4,⟨⟨hp,_⟩,hs⟩,h5⟩:=ChangeSpec.witness_shaped (enc:=enc) (C:=Tryz.checked) (os:=os) (f:=3) (fn:=Tryz.f3) (s:=Rows.escapeClearSpec) (conds:=[]) (apart:=false) (X:=λ_ _=>True) false (World.doorLaid Tryz.prog 400 os) #[.agg #[.slice none 0 0,.slice none 0 0,.slice none 0 0],.agg #[.slice none 0 0,.int .i64 0,.int .i64 0,.int .i64 0],.agg #[.int .i64 0,.int .i64 0],.int .i64 0,.agg #[.slice none 0 0,.slice none 0 0,.int .i64 0,.int .i64 0]] 8 rfl (World.shaped_of_RefB κ κ) κ κ κ trivial
   exact⟨w,tape,i,h1,h2,h3,h4,⟨hp,hs⟩,h5⟩) ?_
 intro W base args ds gs before hval0 hW _ _
 have hval:∀(j:Nat) t v,Tryz.f3.params[j]?=some t->args[j]?=some v->Value.okWide Tryz.prog W .any base t v:=hval0
 have hW':=hW
 obtain⟨p,q,hA0,hV,rfl,hfz,hnd⟩:=hW
 have hA:DataW.TrodAll enc Tryz.prog W 0 (λ_=>true) true Tryz.f3.params.toList args.toList ds p:=hA0
 rw[Tryz.params3] at hA hval
 obtain⟨v0,vs0,d0,ds0,p0,q0,hargs,rfl,rfl,h0,r0⟩:=trodAll_cons hA
 obtain⟨v1,vs1,d1,ds1,p1,q1,rfl,rfl,rfl,h1,r1⟩:=trodAll_cons r0
 obtain⟨v2,vs2,d2,ds2,p2,q2,rfl,rfl,rfl,h2,r2⟩:=trodAll_cons r1
 obtain⟨v3,vs3,d3,ds3,p3,q3,rfl,rfl,rfl,h3,r3⟩:=trodAll_cons r2
 obtain⟨v4,vs4,d4,ds4,p4,q4,rfl,rfl,rfl,h4,r4⟩:=trodAll_cons r3
 obtain⟨rfl,rfl,rfl⟩:=trodAll_nil r4
 obtain rfl:args=#[v0,v1,v2,v3,v4]:=by cases args;simp_all
 obtain⟨rfl,rfl⟩:=trodVars_none hV
 have k0:=h0
 have k1:=h1
 have k2:=h2
 have k4:=h4
 have lt0:∀x∈p0,x.block<W.heap.size:=by obtain⟨m,hm⟩:=k0;exact DataW.trod_lt m _ _ _ hm
 have lt1:∀x∈p1,x.block<W.heap.size:=by obtain⟨m,hm⟩:=k1;exact DataW.trod_lt m _ _ _ hm
 have lt2:∀x∈p2,x.block<W.heap.size:=by obtain⟨m,hm⟩:=k2;exact DataW.trod_lt m _ _ _ hm
 have lt4:∀x∈p4,x.block<W.heap.size:=by obtain⟨m,hm⟩:=k4;exact DataW.trod_lt m _ _ _ hm
 obtain⟨vn0,vh0,va0,pr,rfl,hp0,hsn0,hsa_pr⟩:=Open.open_prog2 (hval 0 26 v0 rfl rfl) h0
 obtain⟨A1,c1,de,rfl,hs1,hcap1,f1_de,f2_de,f3_de⟩:=Open.open_desc (hval 1 28 v1 rfl rfl) h1
 obtain⟨cs,rfl,hcs_cs⟩:=Open.open_case (hval 2 30 v2 rfl rfl) h2
 obtain⟨sd,rfl,rfl,rfl,g_sd⟩:=open_int Tryz.underlying3 (hval 3 3 v3 rfl rfl) h3
 obtain⟨fn,hz_fn,hr4⟩:=Open.open_fence (hval 4 33 v4 rfl rfl) h4
 clear hA0 hval0
 refine((bF pr de cs sd fn (λa ha=>(hsa_pr a ha).2) f1_de f2_de f3_de hcs_cs (AgS g_sd) hz_fn).call W #[.agg #[vn0,vh0,va0],.agg #[.slice A1 de.sides.length c1,.int .i64 de.across,.int .i64 de.down,.int .i64 de.ground],.agg #[.int .i64 cs.craft,.int .i64 cs.act],.int .i64 sd,v4] rfl (λE hw hD i hi=>?_)).mono λe W' ⟨he,bel⟩=>?_
 have hn:i<5:=hi
 match i,hn with
 |0,_=>exact Ahs hp0 hw hD
 |1,_=>exact Ag8 hs1 hcap1 hw hD
 |2,_=>exact .lit _ _
 |3,_=>exact .lit _ _
 |4,_=>exact hr4 E hw hD
 subst he
 exact⟨_,rfl,_,_,_,[],_,[],hW',trodAll_mk1 (shut_bool Tryz.underlying4 _),(trodAll_cons_mk (Below.trod aX κ (of_decide_eq_true κ) k0 bel lt0) (trodAll_cons_mk (Below.trod aX κ (of_decide_eq_true κ) k1 bel lt1) (trodAll_cons_mk (Below.trod aX κ (of_decide_eq_true κ) k2 bel lt2) (trodAll_cons_mk (shut_int Tryz.underlying3 g_sd) (trodAll_cons_mk (Below.trod aX κ (of_decide_eq_true κ) k4 bel lt4) trodAll_mk0))))),rfl,bel.frame _,λh=>by cases h⟩
theorem row_holds:Rows.EscapeClearSaid:=
 OpenClaim.holds_of_wide 3 Tryz.f3 rfl rfl rfl rfl rfl rfl rfl ⟨rfl,rfl,rfl,rfl,rfl⟩ rfl rfl rfl rfl rfl κ Tryz.func3 κ
  (of_decide_eq_true κ) (by unfold Func.isWrapper;first|(rw[if_pos (by decide+kernel)];kernel_rfl)|(rw[if_neg (by decide+kernel)];exact⟨rfl,rfl⟩))
  (λos started H enc _=>Ajy os started H enc)
end Go.Proofs.YtikinphpaiajfaaGreat.EC