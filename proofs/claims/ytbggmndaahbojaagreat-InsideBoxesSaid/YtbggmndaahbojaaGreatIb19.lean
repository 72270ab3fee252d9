/- Part 19 of the proof of IB.row_holds: no condition beyond the row's. -/
import Derived.Test.YtbggmndaahbojaaGreatIb18
set_option maxRecDepth 100000
set_option maxHeartbeats 40000000
namespace Go.Proofs.YtbggmndaahbojaaGreat
open Go.RowKit
structure cQ where
 o:Vs
 hn:Nat
 h:Nat->Vs
 low:Int
 high:Int
abbrev dQ (f:cQ):AV:= .sl 1 f.hn λi=>Bs (f.h i)
abbrev Hw (f:cQ):AV:= .agg [Bs f.o,dQ f,.int f.low,.int f.high]
def yX (f:cQ):Prop:=f.o.n<=64/\f.hn<=16/\∀i,(f.h i).n<=64
def Dc (f:cQ):Nat->Vs
 |0=>f.o
 |k+1=>f.h k
theorem AeT {f:cQ} (h:yX f):∀k,(Dc f k).n<=64
 |0=>h.1
 |k+1=>h.2.2 k
variable {P:Program} {R:Option Nat} {B:Nat} {D0:Ap} {Q:Exit->St->Prop} {fn0:Func} {φ:AV->Prop} {c:Bn} {fs:List FR}
def LR (ψ:Value->List Value->Prop) (r:AV):Prop:=∃V us,r= .tup (.lit V::us.map .lit)/\ψ V us
theorem Acx {a b:List Value} (h:a.map AV.lit=b.map AV.lit):a=b:=List.map_inj_right (λx y h=>by cases h;rfl) |>.1 h
theorem Jf {f:FuncId} {fn:Func} {t:TypeId} {us:List Value} {hs:Pk} {args:List AV} {ψ:Value->List Value->Prop} (hf:Tryz.prog.funcs[f]?=some fn) {x:Code} (hc:fn.body=some x:=by rfl) (h:TE fn (LR ψ) ⟨⟨.code x,[],⟨Da args 0,sM t us hs,hs.length+1,fn.ntmps⟩⟩,[.lnt t hs]⟩) (hle:Nat.ble args.length fn.ntmps=true:=by kernel_rfl) (hd:Ajx hs=true:=by kernel_rfl):∃V us',ψ V us'/\aY Tryz.prog f t us us' hs args V:=by
 obtain⟨r,⟨V,us',rfl,h1⟩,h2⟩:=h
 refine⟨V,us',h1,Ahm hf hc hle hd λB D0 hA=>Wi (h2 B none D0 _ (.lnt t hs D0 hA)).m ?_⟩
 rintro e s ⟨he,V',us2,e1,h3,h4⟩
 simp only[AV.tup.injEq,List.cons.injEq,AV.lit.injEq] at e1
 obtain⟨rfl,e2⟩:=e1
 cases Acx e2
 exact⟨he,h3,h4⟩
theorem Adi {hs:Pk} {h:Cx} (e:(List.range hs.length).map (λi=>Ak h (i+1))=hs.map λp=>some (.box p.1 p.2)) (i:Nat) (hi:i<hs.length):Ak h (i+1)=some (.box (hs.getD i (0,[])).1 (hs.getD i (0,[])).2):=by
 have h1:((List.range hs.length).map (λi=>Ak h (i+1)))[i]?=(hs.map λp=>some (Ar.box p.1 p.2))[i]?:=by rw[e]
 have e2:hs.getD i (0,[])=hs[i]:=by simp[hi]
 simp only[List.getElem?_map,List.getElem?_range hi,List.getElem?_eq_getElem hi,Option.map_some,Option.some.injEq] at h1
 rw[h1,e2]
theorem AkR {fn:Func} {t:TypeId} {hs:Pk} (V:Value) (us:List Value) (hv:Pg P fn c.s=some (.lit V):=by kernel_rfl) (hb:Ak c.s.h 0=some (.box t (us.map .lit)):=by kernel_rfl) (ho:(List.range hs.length).map (λi=>Ak c.s.h (i+1))=hs.map (λp=>some (.box p.1 p.2)):=by kernel_rfl) (hn:c.isE=true:=by kernel_rfl):Go P R B D0 (QL P B D0 fn (.tup (.lit V::us.map .lit)) t hs) c:=by
 have hr:=Yp (B:=B) (D0:=D0) hv
 obtain⟨m,k,s⟩:=c
 unfold Bn.isE at hn
 split at hn
 rename_i h1 h2
 cases h1;cases h2
 exact⟨⟨s,Hb.refl s,.inr rfl,V,us,rfl,hr,hb,Adi ho⟩⟩
 rename_i h1 h2
 cases h1;cases h2
 exact⟨⟨s,Hb.refl s,.inl rfl,V,us,rfl,hr,hb,Adi ho⟩⟩
 cases hn
theorem Re {t:TypeId} {hs:Pk} {ψ:Value->List Value->Prop} (V:Value) (us:List Value) (h:ψ V us) (hv:Pg Tryz.prog fn0 c.s=some (.lit V):=by kernel_rfl) (hb:Ak c.s.h 0=some (.box t (us.map .lit)):=by kernel_rfl) (ho:(List.range hs.length).map (λi=>Ak c.s.h (i+1))=hs.map (λp=>some (.box p.1 p.2)):=by kernel_rfl) (hn:c.isE=true:=by kernel_rfl):TE fn0 (LR ψ) ⟨c,[.lnt t hs]⟩:=
 ⟨_,⟨V,us,rfl,h⟩,λB R D Q hx=>by cases hx with|lnt _ _ D0 h=>exact AkR V us hv hb ho hn⟩
theorem Agq {s:St} (id:Nat) (t:TypeId) (e n n':Nat) (f g:Nat->AV) (hc:Ak s.h id=some (.vec t e n f)) (hn:n'<=n) (hfg:∀i,i<n'->f i=g i) (E:Ap) (a:Act) (hs:Hv B D0 E s a):∃E',E'.w=E.w/\Hv B D0 E' ⟨s.t,hset s.h id (.vec t e n' g),s.nx,s.n⟩ a:=⟨E,rfl,by
 refine⟨hs.size,hs.df,hs.t,⟨λi x hx=>?_,λi j x y hx hy hne=>?_,hs.h.bnd,hs.h.abd,hs.h.le0,hs.h.new,hs.h.B⟩,hs.A⟩
 rw[show Ak (hset s.h id (.vec t e n' g)) i=if id=i then some (.vec t e n' g) else Ak s.h i from Dw _ _ _ _] at hx
 by_cases e1:id=i
 subst e1
 rw[if_pos rfl] at hx
 cases hx
 obtain⟨l1,l2,l3,l4⟩:=hs.h.live id _ hc
 refine⟨l1,?_,l3,l4⟩
 cases l2 with
 |vec _ _ _ _ b cap arr h1 hn1 hc2 hm hr=>exact .vec _ _ _ _ _ _ arr h1 hn1 ω hm λi j hi hj=>by rw[<-hfg i hi];exact hr i j ω hj
 rw[if_neg e1] at hx;exact hs.h.live i x hx
 have real:∀q z,Ak (hset s.h id (.vec t e n' g)) q=some z->∃z',Ak s.h q=some z':=λq z hz=>by
  rw[show Ak (hset s.h id (.vec t e n' g)) q=if id=q then some (.vec t e n' g) else Ak s.h q from Dw _ _ _ _] at hz
  by_cases e:id=q
  subst e;exact⟨_,hc⟩
  rw[if_neg e] at hz;exact⟨z,hz⟩
 obtain⟨x',hx'⟩:=real i x hx
 obtain⟨y',hy'⟩:=real j y hy
 exact hs.h.inj i j x' y' hx' hy' hne⟩
theorem vsh (id:Nat) (t:TypeId) (e n n':Nat) (f g:Nat->AV) (hn:n'<=n) (hfg:∀i,i<n'->f i=g i) (hk:Go P R B D0 Q (c.setB id (.vec t e n' g))) (hc:Ak c.s.h id=some (.vec t e n f):=by kernel_rfl):Go P R B D0 Q c:=
 Fo _ (λE a hs=>Agq id t e n n' f g hc hn hfg E a hs) hk
def AfY (h:Nat->Option Ar) (ids:List Nat):Pk:=ids.map λi=>match h i with|some (.box t cs)=>(t,cs)|_=>(0,[])
theorem uD {P:Program} (id:Nat) (ids:List Nat) {f:FuncId} {t:TypeId} {us us':List Value} {hs:Pk} {args:List AV} {r:Value} (hf:aY P f t us us' hs args r) (hk:Go P R B D0 Q (c.put (.lit r) (.setr ids id (.box t (us'.map .lit))))) (ho:c.o.op= .call { callee:= .value c.fx,args:=c.xs,argTypes:=c.ts }:=by kernel_rfl) (hx:c.s.ev c.fx= .fn f c.cps:=by kernel_rfl) (hcall:∀(vs:Array Value) w,(callFunc f vs).run P w= .ok (.enter f vs) w:=by intro _ _;kernel_rfl) (hdi:Kq (id::ids)=true:=by kernel_rfl) (hp:Ak c.s.h id=some (.box t (us.map .lit)):=by kernel_rfl) (hps:ids.map (Ak c.s.h)=(AfY (Ak c.s.h) ids).map λp=>some (.box p.1 p.2):=by kernel_rfl) (hhs:kY (id::ids) (AfY (Ak c.s.h) ids)=hs:=by kernel_rfl) (hargs:(c.xs.toList.map c.s.ev++c.cps).map (Zd (id::ids))=args:=by kernel_rfl) (hok:c.ok=true:=by kernel_rfl) (hlow:Ba.low (.setr ids id (.box t (us'.map .lit))) c.s.nx=true:=by kernel_rfl):Go P R B D0 Q c:=
 Ns _ _ (dZ c.fx f c.xs c.ts ho c.cps hx hcall id ids hdi t us us' hp _ hps hs hhs args hargs r hf) hk hok hlow
def oFx (o:Oper):Operand:=match o.op with| .call cl=>(match cl.callee with| .value x=>x|_=>default)|_=>default
def Ain (ev:Operand->AV) (o:Oper):List AV:=match ev (oFx o) with| .fn _ l=>l|_=>[]
theorem Vm {P:Program} {B:Nat} {D0:Ap} {o:Oper} {ev:Operand->AV} {pre:Nat->Option Ar} (id:Nat) (ids:List Nat) {f:FuncId} {t:TypeId} {us us':List Value} {hs:Pk} {args:List AV} {r:Value} (hf:aY P f t us us' hs args r) (ho:o.op= .call { callee:= .value (oFx o),args:=Oper.cxs o,argTypes:=Oper.cts o }:=by kernel_rfl) (hx:ev (oFx o)= .fn f (Ain ev o):=by kernel_rfl) (hcall:∀(vs:Array Value) w,(callFunc f vs).run P w= .ok (.enter f vs) w:=by intro _ _;kernel_rfl) (hdi:Kq (id::ids)=true:=by kernel_rfl) (hp:pre id=some (.box t (us.map .lit)):=by kernel_rfl) (hps:ids.map pre=(AfY pre ids).map λp=>some (.box p.1 p.2):=by kernel_rfl) (hhs:kY (id::ids) (AfY pre ids)=hs:=by kernel_rfl) (hargs:((Oper.cxs o).toList.map ev++Ain ev o).map (Zd (id::ids))=args:=by kernel_rfl):Cw P B D0 o ev pre (.lit r) (.setr ids id (.box t (us'.map .lit))):=
 dZ (oFx o) f (Oper.cxs o) (Oper.cts o) ho (Ain ev o) hx hcall id ids hdi t us us' hp _ hps hs hhs args hargs r hf
end Go.Proofs.YtbggmndaahbojaaGreat
namespace Go.Proofs.YtbggmndaahbojaaGreat
open Go.Proofs.Tryz
open Go.RowKit
abbrev Dz (x:Nat):AV:= .slc 1 (nB x) λk=> .int (dB x k:Int)
abbrev iA (z:Int):AV:= .agg [.bool (decide (z<0)),Dz z.natAbs]
theorem mL {x m:Nat} (h:x<bB^m) (h0:m=0\/dB x (m-1)≠0):m=nB x:=by
 rcases h0 with h0|h0
 subst h0
 have:=Gy h
 omega
 cases m with
 |zero=>have:=Gy h;omega
 |succ m=>exact(Ag2 h h0).symm
theorem yT {x m:Nat} (h:x<bB^m) (hm:0<m) (h0:dB x (m-1)=0):x<bB^(m-1):=by
 obtain⟨k,rfl⟩:∃k,m=k+1:=⟨m-1,ω⟩
 exact Ag3 h h0
theorem Ll (x n:Nat) (h:x<bB^n) (hn:n<=1000000):AF Tryz.prog 36 [.slc 1 n λk=> .int (dB x k:Int)] (Dz x):=by
 refine Ai func36 rfl λB D0 hA0=>?_
 refine Aa 7 (Wg [0] (λm s=>∃j,m=j+1/\(j<=n/\x<bB^j)/\s=⟨[(0,.slc 1 j (λi0=> .int ((dB x i0:Nat):Int)))],[],0,21⟩) (n+1) ⟨n,rfl,⟨Nat.le_refl _,h⟩,κ⟩ ?_)
 rintro _ _ ⟨j,rfl,hF,rfl⟩ J1 hJ1
 refine Aa 7 (Cu 6 ((0:Int)<(j:Int)) (λhx1 hx1d=>?_) (λhx1 hx1d=>?_))
 ·
  refine Aa 3 (Ao ((j:Int)-1) ((j-1:Nat):Int) (Dm (j-1) j (Aa 5 (Cu 14 ((dB x (j-1):Int)=0) (λhx2 hx2d=>?_) (λhx2 hx2d=>?_)))))
  ·
   exact Aa 8 (Ao ((j:Int)-1) ((j-1:Nat):Int) (Cc (.slc 1 (j-1) (λi0=> .int ((dB x i0:Nat):Int))) .none (Nb 22 (.tmp 15) (.tmp 18) κ underlying22 1 j sizeOf3 (λi0=> .int ((dB x i0:Nat):Int)) κ (j-1) ((j-1:Nat):Int) κ ω ω) (Aa 3 (Pe [0] (hJ1 _ _ (by omega:j-1+1<j+1) ⟨j-1,rfl,⟨ω,yT hF.2 ω ω⟩,rfl⟩)))))
  ·
   exact Aa 13 (Ch (.slc 1 j (λi0=> .int ((dB x i0:Nat):Int))) (congrArg (λq=>AV.slc 1 q λk=> .int (dB x k:Int)) (mL hF.2 ω)))
 ·
  exact Aa 23 (Ch (.slc 1 j (λi0=> .int ((dB x i0:Nat):Int))) (congrArg (λq=>AV.slc 1 q λk=> .int (dB x k:Int)) (mL hF.2 ω)))
def Tc (x y:Nat):Int:=if x<y then -1 else if y<x then 1 else 0
theorem Abr {x y:Nat} (h:x<y):(-1:Int)=Tc x y:=(if_pos h).symm
theorem Abp {x y:Nat} (h:y<x):(1:Int)=Tc x y:=by unfold Tc;rw[if_neg ω,if_pos h]
theorem Abs {x y:Nat} (h:x=y):(0:Int)=Tc x y:=by unfold Tc;rw[if_neg ω,if_neg ω]
theorem sW {x y:Nat} (h:nB x<nB y):x<y:=by
 refine Nat.lt_of_not_le λg=>?_
 have:=Gy (Nat.lt_of_le_of_lt g (Ki x))
 omega
theorem jZ {x y i j:Nat} (e:i+1=j) (h:x/bB^j=y/bB^j) (hd:(dB x i:Int)<(dB y i:Int)):x<y:=by
 subst e
 have h1:=Lm x i
 have h2:=Lm y i
 rw[h] at h1
 refine Nat.lt_of_not_le λg=>?_
 have:=Nat.div_le_div_right (c:=bB^i) g
 omega
theorem Ab3 {x y i j:Nat} (e:i+1=j) (h:x/bB^j=y/bB^j) (hd:(dB x i:Int)=(dB y i:Int)):x/bB^i=y/bB^i:=by
 subst e
 have h1:=Lm x i
 have h2:=Lm y i
 rw[h] at h1
 omega
theorem Aff {x y:Nat} (h:nB x=nB y):x/bB^nB x=y/bB^nB x:=by
 rw[Nat.div_eq_of_lt (Ki x),Nat.div_eq_of_lt (by rw[h];exact Ki y)]
theorem Uk (x y:Nat) (hx:nB x<=1000) (_:nB y<=1000):AF Tryz.prog 71 [Dz x,Dz y] (.int (Tc x y)):=by
 refine Ai func71 rfl λB D0 hA0=>?_
 refine Aa 15 (qN 10 ((nB x:Int)=(nB y:Int)) (λhx1 hx1d=>?_) (λhx1 hx1d=>?_))
 ·
  refine Aa 8 (Ao ((nB x:Int)-1) ((nB x:Int)-1) (Aa 4 (Wg [0,1,5] (λm s=>∃j,m=j+1/\(j<=nB x/\nB x=nB y/\x/bB^j=y/bB^j)/\s=⟨[(0,Dz x),(1,Dz y),(5,.int ((j:Int)-1))],[],0,41⟩) (nB x+1) ⟨nB x,rfl,⟨Nat.le_refl _,ω,Aff ω⟩,κ⟩ ?_)))
  rintro _ _ ⟨j,rfl,hF,rfl⟩ J1 hJ1
  refine Aa 7 (Cu 20 ((0:Int)<=(j:Int)-1) (λhx2 hx2d=>?_) (λhx2 hx2d=>?_))
  ·
   refine Aa 7 (Be [(2,Ax (Dz x) ((j:Int)-1).toNat,.none),(6,Ax (Dz y) ((j:Int)-1).toNat,.none)] [0,1,5,31] ⟨fZ ((j:Int)-1) ((j:Int)-1).toNat (nB x),fZ ((j:Int)-1) ((j:Int)-1).toNat (nB y),trivial⟩ (Aa 1 (Cu 31 (((dB x (((j:Int)-1).toNat):Nat):Int)<((dB y (((j:Int)-1).toNat):Nat):Int)) (λhx3 hx3d=>?_) (λhx3 hx3d=>?_))))
   ·
    exact Aa 13 (Ch (.int (-1)) (congrArg AV.int (Abr (jZ (i:=((j:Int)-1).toNat) ω hF.2.2 ω))))
   ·
    refine Aa 4 (Be [(2,Ax (Dz x) ((j:Int)-1).toNat,.none),(6,Ax (Dz y) ((j:Int)-1).toNat,.none)] [0,1,5,40] ⟨fZ ((j:Int)-1) ((j:Int)-1).toNat (nB x),fZ ((j:Int)-1) ((j:Int)-1).toNat (nB y),trivial⟩ (Aa 1 (Cu 40 (((dB y (((j:Int)-1).toNat):Nat):Int)<((dB x (((j:Int)-1).toNat):Nat):Int)) (λhx4 hx4d=>?_) (λhx4 hx4d=>?_))))
    ·
     exact Aa 12 (Ch (.int 1) (congrArg AV.int (Abp (jZ (i:=((j:Int)-1).toNat) ω hF.2.2.symm ω))))
    ·
     exact Aa 6 (Ao ((j:Int)-1-1) (((j-1:Nat):Int)-1) (Aa 2 (Pe [0,1,5] (hJ1 _ _ (by omega:j-1+1<j+1) ⟨j-1,rfl,⟨ω,hF.2.1,by have h9:=Ab3 (i:=((j:Int)-1).toNat) ω hF.2.2 ω;rwa [show ((j:Int)-1).toNat=j-1 by omega] at h9⟩,rfl⟩))))
  ·
   exact Aa 12 (Ch (.int 0) (congrArg AV.int (Abs (by have h9:=hF.2.2;rw[show j=0 by omega,Nat.pow_zero,Nat.div_one,Nat.div_one] at h9;exact h9))))
 ·
  refine Aa 11 (Cu 15 ((nB x:Int)<(nB y:Int)) (λhx5 hx5d=>?_) (λhx5 hx5d=>?_))
  ·
   exact Aa 9 (Ch (.int (-1)) (congrArg AV.int (Abr (sW ω))))
  ·
   exact Aa 10 (Ch (.int 1) (congrArg AV.int (Abp (sW ω))))
theorem Rl {x y:AV} (e:x=y) (E:Ap) (v:Value) (h:VR E x v):VR E y v:=e▸h
theorem mP {f:Nat->AV} (E:Ap) (v:Value) (h:VR E (.lit (.slice none 0 0)) v):VR E (.slc 1 0 f) v:=by
 cases h with
 |lit=>exact .slc _ _ _ _ _ _ ζ (.sl0 _ _ _ _ _)
theorem rK {x y k:Nat} (h:nB x<=k/\nB y<=k/\Cm x y k=0):nB (x+y)<=k:=Gy (AeS h.1 h.2.1 h.2.2)
theorem AaK {x y k:Nat} (h:k<nB x\/k<nB y\/0<Cm x y k):k<nB (x+y):=AcD (AaL h)
theorem Te {x k:Nat} (h:nB x<=k):dB x k=0:=Ajw h
theorem AgJ (x y:Nat):Cm x y 0=0:=by
 unfold Cm
 simp[Nat.mod_one]
theorem Aan (x y:Nat) (hx:nB x<=1000) (hy:nB y<=1000) (hz:nB (x+y)<=1000):AF Tryz.prog 70 [Dz x,Dz y] (Dz (x+y)):=by
 refine Ai func70 rfl λB D0 hA0=>?_
 refine Aa 22 (Wg [0,1,5,6,7] (λm s=>∃j,j<=nB (x+y)/\m=nB (x+y)-j/\True/\((j=0/\s=⟨[(0,Dz x),(1,Dz y),(5,.lit (.slice none 0 0)),(6,.int 0),(7,.int ((0:Nat):Int))],[],0,52⟩)\/(0<j/\s=⟨[(0,Dz x),(1,Dz y),(5,.osl 9 1 j),(6,.int (Cm x y j:Int)),(7,.int (j:Int))],[(9,.vec 3 1 j (λi0=> .int ((dB (x+y) i0:Nat):Int)))],10,52⟩))) (nB (x+y)) ⟨0,Nat.zero_le _,rfl,trivial,.inl ⟨rfl,κ⟩⟩ ?_)
 rintro _ _ ⟨j,hjn,rfl,hFj,(⟨hj0,rfl⟩|⟨hj0,rfl⟩)⟩ J1 hJ1
 ·
  subst hj0
  have e1:=@rK x y 0
  have e2:=@AaK x y 0
  have e3:dB x 0<1000000000:=Ic x 0
  have e4:dB y 0<1000000000:=Ic y 0
  have e5:=AaZ x y 0
  have e6:Cm x y (0+1)=(Cm x y 0+dB x 0+dB y 0)/1000000000:=Aba x y 0
  have e7:dB (x+y) 0=(Cm x y 0+dB x 0+dB y 0)%1000000000:=rV x y 0
  have e8:=@Te x 0
  have e9:=@Te y 0
  have ec:=AgJ x y
  refine Aa 8 (Cu 12 (((0:Nat):Int)<(nB x:Int)) (λhx1 hx1d=>?_) (λhx1 hx1d=>?_))
  ·
   refine Aa 25 (Ev 27 (decide (((0:Nat):Int)<(nB x:Int))) true hx1 (Aa 5 (Dm 0 (nB x) (Aa 1 (Ao ((0:Int)+((dB x 0:Nat):Int)) ((0+dB x 0:Nat):Int) (Aa 12 (Cu 37 (((0:Nat):Int)<(nB y:Int)) (λhx2 hx2d=>?_) (λhx2 hx2d=>?_))))))))
   ·
    refine Aa 5 (Dm 0 (nB y) (Aa 1 (Ao (((0+dB x 0:Nat):Int)+((dB y 0:Nat):Int)) ((0+dB x 0+dB y 0:Nat):Int) (Aa 7 (Dx (.int .i64 (Int.tmod ((0+dB x 0+dB y 0:Nat):Int) 1000000000)) (.int .i64 (((0+dB x 0+dB y 0:Nat):Int)%1000000000)) ?_ (congrArg (Value.int .i64) (Int.tmod_eq_emod_of_nonneg ω)))))))
    refine Iu 0 3 1 1 (λ_=> .int (((0+dB x 0+dB y 0:Nat):Int)%1000000000)) ?_
    refine Sk 8 3 3 1 1 0 1 (λ_=> .int (((0+dB x 0+dB y 0:Nat):Int)%1000000000)) (λi0=> .int ((dB (x+y) i0:Nat):Int)) (λi hi=>by(obtain rfl:i=0:=(ω));exact congrArg AV.int ω) ?_
    refine Aa 5 (Dx (.int .i64 (IntKind.wrap .i64 (Int.tdiv ((0+dB x 0+dB y 0:Nat):Int) 1000000000))) (.int .i64 (((0+dB x 0+dB y 0:Nat):Int)/1000000000)) ?_ (congrArg (Value.int .i64) (by rw[Int.tdiv_eq_ediv_of_nonneg ω];exact(IntWalk.i64_in _ ω))))
    refine Aa 6 (Ao (((0:Nat):Int)+1) ((0+1:Nat):Int) (Aa 2 (Ee 6 (.int (((0+dB x 0+dB y 0:Nat):Int)/1000000000)) (.int (Cm x y (0+1):Int)) (Rl (congrArg AV.int ω)) ?_)))
    exact Ew [0,1,5,6,7] [(1,9)] 10 0 hA0 [(3,1,1,(λ_=> .int (((0+dB x 0+dB y 0:Nat):Int)%1000000000))),(3,1,1,(λi0=> .int ((dB (x+y) i0:Nat):Int)))] ⟨(Bi λ_ _=>rfl),(Bi λ_ _=>rfl),trivial⟩ (hJ1 _ _ (by omega:nB (x+y)-(0+1)<nB (x+y)-0) ⟨0+1,ω,rfl,trivial,.inr ⟨Nat.succ_pos _,rfl⟩⟩)
   ·
    refine Aa 7 (Dx (.int .i64 (Int.tmod ((0+dB x 0:Nat):Int) 1000000000)) (.int .i64 (((0+dB x 0:Nat):Int)%1000000000)) ?_ (congrArg (Value.int .i64) (Int.tmod_eq_emod_of_nonneg ω)))
    refine Iu 0 3 1 1 (λ_=> .int (((0+dB x 0:Nat):Int)%1000000000)) ?_
    refine Sk 8 3 3 1 1 0 1 (λ_=> .int (((0+dB x 0:Nat):Int)%1000000000)) (λi0=> .int ((dB (x+y) i0:Nat):Int)) (λi hi=>by(obtain rfl:i=0:=(ω));exact congrArg AV.int ω) ?_
    refine Aa 5 (Dx (.int .i64 (IntKind.wrap .i64 (Int.tdiv ((0+dB x 0:Nat):Int) 1000000000))) (.int .i64 (((0+dB x 0:Nat):Int)/1000000000)) ?_ (congrArg (Value.int .i64) (by rw[Int.tdiv_eq_ediv_of_nonneg ω];exact(IntWalk.i64_in _ ω))))
    refine Aa 6 (Ao (((0:Nat):Int)+1) ((0+1:Nat):Int) (Aa 2 (Ee 6 (.int (((0+dB x 0:Nat):Int)/1000000000)) (.int (Cm x y (0+1):Int)) (Rl (congrArg AV.int ω)) ?_)))
    exact Ew [0,1,5,6,7] [(1,9)] 10 0 hA0 [(3,1,1,(λ_=> .int (((0+dB x 0:Nat):Int)%1000000000))),(3,1,1,(λi0=> .int ((dB (x+y) i0:Nat):Int)))] ⟨(Bi λ_ _=>rfl),(Bi λ_ _=>rfl),trivial⟩ (hJ1 _ _ (by omega:nB (x+y)-(0+1)<nB (x+y)-0) ⟨0+1,ω,rfl,trivial,.inr ⟨Nat.succ_pos _,rfl⟩⟩)
  ·
   refine Aa 6 (Cu 18 (((0:Nat):Int)<(nB y:Int)) (λhx3 hx3d=>?_) (λhx3 hx3d=>?_))
   ·
    refine Aa 19 (Ev 27 (decide (((0:Nat):Int)<(nB x:Int))) false hx1 (Aa 12 (Ev 37 (decide (((0:Nat):Int)<(nB y:Int))) true hx3 (Aa 5 (Dm 0 (nB y) (Aa 1 (Ao ((0:Int)+((dB y 0:Nat):Int)) ((0+dB y 0:Nat):Int) (Aa 7 (Dx (.int .i64 (Int.tmod ((0+dB y 0:Nat):Int) 1000000000)) (.int .i64 (((0+dB y 0:Nat):Int)%1000000000)) ?_ (congrArg (Value.int .i64) (Int.tmod_eq_emod_of_nonneg ω)))))))))))
    refine Iu 0 3 1 1 (λ_=> .int (((0+dB y 0:Nat):Int)%1000000000)) ?_
    refine Sk 8 3 3 1 1 0 1 (λ_=> .int (((0+dB y 0:Nat):Int)%1000000000)) (λi0=> .int ((dB (x+y) i0:Nat):Int)) (λi hi=>by(obtain rfl:i=0:=(ω));exact congrArg AV.int ω) ?_
    refine Aa 5 (Dx (.int .i64 (IntKind.wrap .i64 (Int.tdiv ((0+dB y 0:Nat):Int) 1000000000))) (.int .i64 (((0+dB y 0:Nat):Int)/1000000000)) ?_ (congrArg (Value.int .i64) (by rw[Int.tdiv_eq_ediv_of_nonneg ω];exact(IntWalk.i64_in _ ω))))
    refine Aa 6 (Ao (((0:Nat):Int)+1) ((0+1:Nat):Int) (Aa 2 (Ee 6 (.int (((0+dB y 0:Nat):Int)/1000000000)) (.int (Cm x y (0+1):Int)) (Rl (congrArg AV.int ω)) ?_)))
    exact Ew [0,1,5,6,7] [(1,9)] 10 0 hA0 [(3,1,1,(λ_=> .int (((0+dB y 0:Nat):Int)%1000000000))),(3,1,1,(λi0=> .int ((dB (x+y) i0:Nat):Int)))] ⟨(Bi λ_ _=>rfl),(Bi λ_ _=>rfl),trivial⟩ (hJ1 _ _ (by omega:nB (x+y)-(0+1)<nB (x+y)-0) ⟨0+1,ω,rfl,trivial,.inr ⟨Nat.succ_pos _,rfl⟩⟩)
   ·
    refine Aa 11 (Ee 5 (.lit (.slice none 0 0)) (.slc 1 0 λk=> .int (dB (x+y) k:Int)) mP ?_)
    exact Aa 7 (Ch (.slc 1 0 (λi0=> .int ((dB (x+y) i0:Nat):Int))) (congrArg (λq=>AV.slc 1 q λk=> .int (dB (x+y) k:Int)) (show 0=nB (x+y) by omega)))
 ·
  have e1:=@rK x y j
  have e2:=@AaK x y j
  have e3:dB x j<1000000000:=Ic x j
  have e4:dB y j<1000000000:=Ic y j
  have e5:=AaZ x y j
  have e6:Cm x y (j+1)=(Cm x y j+dB x j+dB y j)/1000000000:=Aba x y j
  have e7:dB (x+y) j=(Cm x y j+dB x j+dB y j)%1000000000:=rV x y j
  have e8:=@Te x j
  have e9:=@Te y j
  have ec:=AgJ x y
  refine Aa 8 (Cu 12 ((j:Int)<(nB x:Int)) (λhx4 hx4d=>?_) (λhx4 hx4d=>?_))
  ·
   refine Aa 25 (Ev 27 (decide ((j:Int)<(nB x:Int))) true hx4 (Aa 5 (Dm j (nB x) (Aa 1 (Ao ((Cm x y j:Int)+(dB x j:Int)) ((Cm x y j+dB x j:Nat):Int) (Aa 12 (Cu 37 ((j:Int)<(nB y:Int)) (λhx5 hx5d=>?_) (λhx5 hx5d=>?_))))))))
   ·
    refine Aa 5 (Dm j (nB y) (Aa 1 (Ao (((Cm x y j+dB x j:Nat):Int)+(dB y j:Int)) ((Cm x y j+dB x j+dB y j:Nat):Int) (Aa 7 (Dx (.int .i64 (Int.tmod ((Cm x y j+dB x j+dB y j:Nat):Int) 1000000000)) (.int .i64 (((Cm x y j+dB x j+dB y j:Nat):Int)%1000000000)) ?_ (congrArg (Value.int .i64) (Int.tmod_eq_emod_of_nonneg ω)))))))
    refine Iu 10 3 1 1 (λ_=> .int (((Cm x y j+dB x j+dB y j:Nat):Int)%1000000000)) ?_
    refine Lz 8 3 3 1 j 1 9 10 11 (λi0=> .int ((dB (x+y) i0:Nat):Int)) (λ_=> .int (((Cm x y j+dB x j+dB y j:Nat):Int)%1000000000)) (λi0=> .int ((dB (x+y) i0:Nat):Int)) (λi hi=>rfl) (λi hi=>by(obtain rfl:i=0:=(ω));exact(show AV.int (dB (x+y) j:Int)=_ from congrArg AV.int ω)) ?_
    refine Aa 5 (Dx (.int .i64 (IntKind.wrap .i64 (Int.tdiv ((Cm x y j+dB x j+dB y j:Nat):Int) 1000000000))) (.int .i64 (((Cm x y j+dB x j+dB y j:Nat):Int)/1000000000)) ?_ (congrArg (Value.int .i64) (by rw[Int.tdiv_eq_ediv_of_nonneg ω];exact(IntWalk.i64_in _ ω))))
    refine Aa 6 (Ao ((j:Int)+1) ((j+1:Nat):Int) (Aa 2 (Ee 6 (.int (((Cm x y j+dB x j+dB y j:Nat):Int)/1000000000)) (.int (Cm x y (j+1):Int)) (Rl (congrArg AV.int ω)) ?_)))
    exact Ew [0,1,5,6,7] [(11,9)] 10 0 hA0 [(3,1,1,(λ_=> .int (((Cm x y j+dB x j+dB y j:Nat):Int)%1000000000))),(3,1,j+1,(λi0=> .int ((dB (x+y) i0:Nat):Int)))] ⟨(Bi λ_ _=>rfl),(Bi λ_ _=>rfl),trivial⟩ (hJ1 _ _ (by omega:nB (x+y)-(j+1)<nB (x+y)-j) ⟨j+1,ω,rfl,trivial,.inr ⟨Nat.succ_pos _,rfl⟩⟩)
   ·
    refine Aa 7 (Dx (.int .i64 (Int.tmod ((Cm x y j+dB x j:Nat):Int) 1000000000)) (.int .i64 (((Cm x y j+dB x j:Nat):Int)%1000000000)) ?_ (congrArg (Value.int .i64) (Int.tmod_eq_emod_of_nonneg ω)))
    refine Iu 10 3 1 1 (λ_=> .int (((Cm x y j+dB x j:Nat):Int)%1000000000)) ?_
    refine Lz 8 3 3 1 j 1 9 10 11 (λi0=> .int ((dB (x+y) i0:Nat):Int)) (λ_=> .int (((Cm x y j+dB x j:Nat):Int)%1000000000)) (λi0=> .int ((dB (x+y) i0:Nat):Int)) (λi hi=>rfl) (λi hi=>by(obtain rfl:i=0:=(ω));exact(show AV.int (dB (x+y) j:Int)=_ from congrArg AV.int ω)) ?_
    refine Aa 5 (Dx (.int .i64 (IntKind.wrap .i64 (Int.tdiv ((Cm x y j+dB x j:Nat):Int) 1000000000))) (.int .i64 (((Cm x y j+dB x j:Nat):Int)/1000000000)) ?_ (congrArg (Value.int .i64) (by rw[Int.tdiv_eq_ediv_of_nonneg ω];exact(IntWalk.i64_in _ ω))))
    refine Aa 6 (Ao ((j:Int)+1) ((j+1:Nat):Int) (Aa 2 (Ee 6 (.int (((Cm x y j+dB x j:Nat):Int)/1000000000)) (.int (Cm x y (j+1):Int)) (Rl (congrArg AV.int ω)) ?_)))
    exact Ew [0,1,5,6,7] [(11,9)] 10 0 hA0 [(3,1,1,(λ_=> .int (((Cm x y j+dB x j:Nat):Int)%1000000000))),(3,1,j+1,(λi0=> .int ((dB (x+y) i0:Nat):Int)))] ⟨(Bi λ_ _=>rfl),(Bi λ_ _=>rfl),trivial⟩ (hJ1 _ _ (by omega:nB (x+y)-(j+1)<nB (x+y)-j) ⟨j+1,ω,rfl,trivial,.inr ⟨Nat.succ_pos _,rfl⟩⟩)
  ·
   refine Aa 6 (Cu 18 ((j:Int)<(nB y:Int)) (λhx6 hx6d=>?_) (λhx6 hx6d=>?_))
   ·
    refine Aa 19 (Ev 27 (decide ((j:Int)<(nB x:Int))) false hx4 (Aa 12 (Ev 37 (decide ((j:Int)<(nB y:Int))) true hx6 (Aa 5 (Dm j (nB y) (Aa 1 (Ao ((Cm x y j:Int)+(dB y j:Int)) ((Cm x y j+dB y j:Nat):Int) (Aa 7 (Dx (.int .i64 (Int.tmod ((Cm x y j+dB y j:Nat):Int) 1000000000)) (.int .i64 (((Cm x y j+dB y j:Nat):Int)%1000000000)) ?_ (congrArg (Value.int .i64) (Int.tmod_eq_emod_of_nonneg ω)))))))))))
    refine Iu 10 3 1 1 (λ_=> .int (((Cm x y j+dB y j:Nat):Int)%1000000000)) ?_
    refine Lz 8 3 3 1 j 1 9 10 11 (λi0=> .int ((dB (x+y) i0:Nat):Int)) (λ_=> .int (((Cm x y j+dB y j:Nat):Int)%1000000000)) (λi0=> .int ((dB (x+y) i0:Nat):Int)) (λi hi=>rfl) (λi hi=>by(obtain rfl:i=0:=(ω));exact(show AV.int (dB (x+y) j:Int)=_ from congrArg AV.int ω)) ?_
    refine Aa 5 (Dx (.int .i64 (IntKind.wrap .i64 (Int.tdiv ((Cm x y j+dB y j:Nat):Int) 1000000000))) (.int .i64 (((Cm x y j+dB y j:Nat):Int)/1000000000)) ?_ (congrArg (Value.int .i64) (by rw[Int.tdiv_eq_ediv_of_nonneg ω];exact(IntWalk.i64_in _ ω))))
    refine Aa 6 (Ao ((j:Int)+1) ((j+1:Nat):Int) (Aa 2 (Ee 6 (.int (((Cm x y j+dB y j:Nat):Int)/1000000000)) (.int (Cm x y (j+1):Int)) (Rl (congrArg AV.int ω)) ?_)))
    exact Ew [0,1,5,6,7] [(11,9)] 10 0 hA0 [(3,1,1,(λ_=> .int (((Cm x y j+dB y j:Nat):Int)%1000000000))),(3,1,j+1,(λi0=> .int ((dB (x+y) i0:Nat):Int)))] ⟨(Bi λ_ _=>rfl),(Bi λ_ _=>rfl),trivial⟩ (hJ1 _ _ (by omega:nB (x+y)-(j+1)<nB (x+y)-j) ⟨j+1,ω,rfl,trivial,.inr ⟨Nat.succ_pos _,rfl⟩⟩)
   ·
    refine Aa 5 (Cu 21 ((0:Int)<(Cm x y j:Int)) (λhx7 hx7d=>?_) (λhx7 hx7d=>?_))
    ·
     refine Aa 14 (Ev 27 (decide ((j:Int)<(nB x:Int))) false hx4 (Aa 12 (Ev 37 (decide ((j:Int)<(nB y:Int))) false hx6 (Aa 7 (Dx (.int .i64 (Int.tmod (Cm x y j:Int) 1000000000)) (.int .i64 ((Cm x y j:Int)%1000000000)) ?_ (congrArg (Value.int .i64) (Int.tmod_eq_emod_of_nonneg ω)))))))
     refine Iu 10 3 1 1 (λ_=> .int ((Cm x y j:Int)%1000000000)) ?_
     refine Lz 8 3 3 1 j 1 9 10 11 (λi0=> .int ((dB (x+y) i0:Nat):Int)) (λ_=> .int ((Cm x y j:Int)%1000000000)) (λi0=> .int ((dB (x+y) i0:Nat):Int)) (λi hi=>rfl) (λi hi=>by(obtain rfl:i=0:=(ω));exact(show AV.int (dB (x+y) j:Int)=_ from congrArg AV.int ω)) ?_
     refine Aa 5 (Dx (.int .i64 (IntKind.wrap .i64 (Int.tdiv (Cm x y j:Int) 1000000000))) (.int .i64 ((Cm x y j:Int)/1000000000)) ?_ (congrArg (Value.int .i64) (by rw[Int.tdiv_eq_ediv_of_nonneg ω];exact(IntWalk.i64_in _ ω))))
     refine Aa 6 (Ao ((j:Int)+1) ((j+1:Nat):Int) (Aa 2 (Ee 6 (.int ((Cm x y j:Int)/1000000000)) (.int (Cm x y (j+1):Int)) (Rl (congrArg AV.int ω)) ?_)))
     exact Ew [0,1,5,6,7] [(11,9)] 10 0 hA0 [(3,1,1,(λ_=> .int ((Cm x y j:Int)%1000000000))),(3,1,j+1,(λi0=> .int ((dB (x+y) i0:Nat):Int)))] ⟨(Bi λ_ _=>rfl),(Bi λ_ _=>rfl),trivial⟩ (hJ1 _ _ (by omega:nB (x+y)-(j+1)<nB (x+y)-j) ⟨j+1,ω,rfl,trivial,.inr ⟨Nat.succ_pos _,rfl⟩⟩)
    ·
     exact Aa 6 (Jg 9 [5] 3 1 j (λi0=> .int ((dB (x+y) i0:Nat):Int)) (Bi λ_ _=>rfl) (Aa 7 (Ch (.slc 1 j (λi0=> .int ((dB (x+y) i0:Nat):Int))) (congrArg (λq=>AV.slc 1 q λk=> .int (dB (x+y) k:Int)) (show j=nB (x+y) by omega)))))
theorem jV (x y k:Nat):(Rx x y k<0/\En x y (k+1)=1)\/(0<=Rx x y k/\En x y (k+1)=0):=by
 rw[Ah0]
 split
 rename_i h;exact .inl ⟨h,rfl⟩
 rename_i h;exact .inr ⟨ω,rfl⟩
theorem kA {x y:Nat} (h:y<=x) (k:Nat):(Rx x y k<0/\(dB (x-y) k:Int)=Rx x y k+1000000000)\/(0<=Rx x y k/\(dB (x-y) k:Int)=Rx x y k):=by
 have e:=Afd h k
 by_cases g:Rx x y k<0
 rw[if_pos g] at e;exact .inl ⟨g,e⟩
 rw[if_neg g] at e;exact .inr ⟨ω,e⟩
theorem AaW (x y k:Nat):En x y k<=1:=by unfold En;split<;>decide
theorem Aka {x y:Nat} (h:nB x=0):x-y<bB^0:=by have:=@AdN x y;rwa [h] at this
theorem Ui (x y:Nat) (h:y<=x) (hx:nB x<=1000) (hy:nB y<=1000):AF Tryz.prog 72 [Dz x,Dz y] (Dz (x-y)):=by
 refine Ai func72 rfl λB D0 hA0=>?_
 refine Aa 22 (Wg [0,1,5,6,7] (λm s=>∃j,j<=nB x/\m=nB x-j/\True/\((j=0/\s=⟨[(0,Dz x),(1,Dz y),(5,.lit (.slice none 0 0)),(6,.int 0),(7,.int ((0:Nat):Int))],[],0,41⟩)\/(0<j/\s=⟨[(0,Dz x),(1,Dz y),(5,.osl 9 1 j),(6,.int (En x y j:Int)),(7,.int (j:Int))],[(9,.vec 3 1 j (λi0=> .int ((dB (x-y) i0:Nat):Int)))],10,41⟩))) (nB x) ⟨0,Nat.zero_le _,rfl,trivial,.inl ⟨rfl,κ⟩⟩ ?_)
 rintro _ _ ⟨j,hjn,rfl,hFj,(⟨hj0,rfl⟩|⟨hj0,rfl⟩)⟩ J1 hJ1
 ·
  subst hj0
  have e3:dB x 0<1000000000:=Ic x 0
  have e4:dB y 0<1000000000:=Ic y 0
  have e5:=AaW x y 0
  have e9:=@Te y 0
  have ed:Rx x y 0=(dB x 0:Int)-(En x y 0:Int)-(dB y 0:Int):=rfl
  have e6:=jV x y 0
  have e7:=kA h 0
  have ec:=AgG x y
  refine Aa 9 (Cu 12 (((0:Nat):Int)<(nB x:Int)) (λhx1 hx1d=>?_) (λhx1 hx1d=>?_))
  ·
   refine Aa 9 (Dm 0 (nB x) (Aa 2 (Dx (.int .i64 (IntKind.wrap .i64 (((dB x 0:Nat):Int)-0))) (.int .i64 (((dB x 0:Nat):Int)-0)) ?_ (congrArg (Value.int .i64) (IntWalk.i64_in _ ω)))))
   refine Aa 12 (Cu 24 (((0:Nat):Int)<(nB y:Int)) (λhx2 hx2d=>?_) (λhx2 hx2d=>?_))
   ·
    refine Aa 5 (Dm 0 (nB y) (Aa 1 (Dx (.int .i64 (IntKind.wrap .i64 ((((dB x 0:Nat):Int)-0)-((dB y 0:Nat):Int)))) (.int .i64 ((((dB x 0:Nat):Int)-0)-((dB y 0:Nat):Int))) ?_ (congrArg (Value.int .i64) (IntWalk.i64_in _ ω)))))
    refine Aa 15 (Cu 32 (((((dB x 0:Nat):Int)-0)-((dB y 0:Nat):Int))<0) (λhx3 hx3d=>?_) (λhx3 hx3d=>?_))
    ·
     refine Aa 3 (Ao (((((dB x 0:Nat):Int)-0)-((dB y 0:Nat):Int))+1000000000) (((((dB x 0:Nat):Int)-0)-((dB y 0:Nat):Int))+1000000000) (Aa 7 (Iu 0 3 1 1 (λ_=> .int (((((dB x 0:Nat):Int)-0)-((dB y 0:Nat):Int))+1000000000)) ?_)))
     refine Sk 8 3 3 1 1 0 1 (λ_=> .int (((((dB x 0:Nat):Int)-0)-((dB y 0:Nat):Int))+1000000000)) (λi0=> .int ((dB (x-y) i0:Nat):Int)) (λi hi=>by(obtain rfl:i=0:=(ω));exact congrArg AV.int ω) ?_
     refine Aa 6 (Ao (((0:Nat):Int)+1) ((0+1:Nat):Int) (Aa 2 (Ee 6 (.int 1) (.int (En x y (0+1):Int)) (Rl (congrArg AV.int ω)) ?_)))
     exact Ew [0,1,5,6,7] [(1,9)] 10 0 hA0 [(3,1,1,(λ_=> .int (((((dB x 0:Nat):Int)-0)-((dB y 0:Nat):Int))+1000000000))),(3,1,1,(λi0=> .int ((dB (x-y) i0:Nat):Int)))] ⟨(Bi λ_ _=>rfl),(Bi λ_ _=>rfl),trivial⟩ (hJ1 _ _ (by omega:nB x-(0+1)<nB x-0) ⟨0+1,ω,rfl,trivial,.inr ⟨Nat.succ_pos _,rfl⟩⟩)
    ·
     refine Aa 6 (Iu 0 3 1 1 (λ_=> .int ((((dB x 0:Nat):Int)-0)-((dB y 0:Nat):Int))) ?_)
     refine Sk 8 3 3 1 1 0 1 (λ_=> .int ((((dB x 0:Nat):Int)-0)-((dB y 0:Nat):Int))) (λi0=> .int ((dB (x-y) i0:Nat):Int)) (λi hi=>by(obtain rfl:i=0:=(ω));exact congrArg AV.int ω) ?_
     refine Aa 6 (Ao (((0:Nat):Int)+1) ((0+1:Nat):Int) (Aa 2 (Ee 6 (.int 0) (.int (En x y (0+1):Int)) (Rl (congrArg AV.int ω)) ?_)))
     exact Ew [0,1,5,6,7] [(1,9)] 10 0 hA0 [(3,1,1,(λ_=> .int ((((dB x 0:Nat):Int)-0)-((dB y 0:Nat):Int)))),(3,1,1,(λi0=> .int ((dB (x-y) i0:Nat):Int)))] ⟨(Bi λ_ _=>rfl),(Bi λ_ _=>rfl),trivial⟩ (hJ1 _ _ (by omega:nB x-(0+1)<nB x-0) ⟨0+1,ω,rfl,trivial,.inr ⟨Nat.succ_pos _,rfl⟩⟩)
   ·
    refine Aa 15 (Cu 32 ((((dB x 0:Nat):Int)-0)<0) (λhx4 hx4d=>?_) (λhx4 hx4d=>?_))
    ·
     refine Aa 3 (Ao ((((dB x 0:Nat):Int)-0)+1000000000) ((((dB x 0:Nat):Int)-0)+1000000000) (Aa 7 (Iu 0 3 1 1 (λ_=> .int ((((dB x 0:Nat):Int)-0)+1000000000)) ?_)))
     refine Sk 8 3 3 1 1 0 1 (λ_=> .int ((((dB x 0:Nat):Int)-0)+1000000000)) (λi0=> .int ((dB (x-y) i0:Nat):Int)) (λi hi=>by(obtain rfl:i=0:=(ω));exact congrArg AV.int ω) ?_
     refine Aa 6 (Ao (((0:Nat):Int)+1) ((0+1:Nat):Int) (Aa 2 (Ee 6 (.int 1) (.int (En x y (0+1):Int)) (Rl (congrArg AV.int ω)) ?_)))
     exact Ew [0,1,5,6,7] [(1,9)] 10 0 hA0 [(3,1,1,(λ_=> .int ((((dB x 0:Nat):Int)-0)+1000000000))),(3,1,1,(λi0=> .int ((dB (x-y) i0:Nat):Int)))] ⟨(Bi λ_ _=>rfl),(Bi λ_ _=>rfl),trivial⟩ (hJ1 _ _ (by omega:nB x-(0+1)<nB x-0) ⟨0+1,ω,rfl,trivial,.inr ⟨Nat.succ_pos _,rfl⟩⟩)
    ·
     refine Aa 6 (Iu 0 3 1 1 (λ_=> .int (((dB x 0:Nat):Int)-0)) ?_)
     refine Sk 8 3 3 1 1 0 1 (λ_=> .int (((dB x 0:Nat):Int)-0)) (λi0=> .int ((dB (x-y) i0:Nat):Int)) (λi hi=>by(obtain rfl:i=0:=(ω));exact congrArg AV.int ω) ?_
     refine Aa 6 (Ao (((0:Nat):Int)+1) ((0+1:Nat):Int) (Aa 2 (Ee 6 (.int 0) (.int (En x y (0+1):Int)) (Rl (congrArg AV.int ω)) ?_)))
     exact Ew [0,1,5,6,7] [(1,9)] 10 0 hA0 [(3,1,1,(λ_=> .int (((dB x 0:Nat):Int)-0))),(3,1,1,(λi0=> .int ((dB (x-y) i0:Nat):Int)))] ⟨(Bi λ_ _=>rfl),(Bi λ_ _=>rfl),trivial⟩ (hJ1 _ _ (by omega:nB x-(0+1)<nB x-0) ⟨0+1,ω,rfl,trivial,.inr ⟨Nat.succ_pos _,rfl⟩⟩)
  ·
   refine Aa 6 (Ee 5 (.lit (.slice none 0 0)) (.slc 1 0 λk=> .int (dB (x-y) k:Int)) mP ?_)
   exact Aa 3 (Aj (Ll (x-y) 0 (Aka ω) ω) (Aa 4 (Br)))
 ·
  have e3:dB x j<1000000000:=Ic x j
  have e4:dB y j<1000000000:=Ic y j
  have e5:=AaW x y j
  have e9:=@Te y j
  have ed:Rx x y j=(dB x j:Int)-(En x y j:Int)-(dB y j:Int):=rfl
  have e6:=jV x y j
  have e7:=kA h j
  have ec:=AgG x y
  refine Aa 9 (Cu 12 ((j:Int)<(nB x:Int)) (λhx5 hx5d=>?_) (λhx5 hx5d=>?_))
  ·
   refine Aa 9 (Dm j (nB x) (Aa 2 (Dx (.int .i64 (IntKind.wrap .i64 ((dB x j:Int)-(En x y j:Int)))) (.int .i64 ((dB x j:Int)-(En x y j:Int))) ?_ (congrArg (Value.int .i64) (IntWalk.i64_in _ ω)))))
   refine Aa 12 (Cu 24 ((j:Int)<(nB y:Int)) (λhx6 hx6d=>?_) (λhx6 hx6d=>?_))
   ·
    refine Aa 5 (Dm j (nB y) (Aa 1 (Dx (.int .i64 (IntKind.wrap .i64 (((dB x j:Int)-(En x y j:Int))-(dB y j:Int)))) (.int .i64 (((dB x j:Int)-(En x y j:Int))-(dB y j:Int))) ?_ (congrArg (Value.int .i64) (IntWalk.i64_in _ ω)))))
    refine Aa 15 (Cu 32 ((((dB x j:Int)-(En x y j:Int))-(dB y j:Int))<0) (λhx7 hx7d=>?_) (λhx7 hx7d=>?_))
    ·
     refine Aa 3 (Ao ((((dB x j:Int)-(En x y j:Int))-(dB y j:Int))+1000000000) ((((dB x j:Int)-(En x y j:Int))-(dB y j:Int))+1000000000) (Aa 7 (Iu 10 3 1 1 (λ_=> .int ((((dB x j:Int)-(En x y j:Int))-(dB y j:Int))+1000000000)) ?_)))
     refine Lz 8 3 3 1 j 1 9 10 11 (λi0=> .int ((dB (x-y) i0:Nat):Int)) (λ_=> .int ((((dB x j:Int)-(En x y j:Int))-(dB y j:Int))+1000000000)) (λi0=> .int ((dB (x-y) i0:Nat):Int)) (λi hi=>rfl) (λi hi=>by(obtain rfl:i=0:=(ω));exact(show AV.int (dB (x-y) j:Int)=_ from congrArg AV.int ω)) ?_
     refine Aa 6 (Ao ((j:Int)+1) ((j+1:Nat):Int) (Aa 2 (Ee 6 (.int 1) (.int (En x y (j+1):Int)) (Rl (congrArg AV.int ω)) ?_)))
     exact Ew [0,1,5,6,7] [(11,9)] 10 0 hA0 [(3,1,1,(λ_=> .int ((((dB x j:Int)-(En x y j:Int))-(dB y j:Int))+1000000000))),(3,1,j+1,(λi0=> .int ((dB (x-y) i0:Nat):Int)))] ⟨(Bi λ_ _=>rfl),(Bi λ_ _=>rfl),trivial⟩ (hJ1 _ _ (by omega:nB x-(j+1)<nB x-j) ⟨j+1,ω,rfl,trivial,.inr ⟨Nat.succ_pos _,rfl⟩⟩)
    ·
     refine Aa 6 (Iu 10 3 1 1 (λ_=> .int (((dB x j:Int)-(En x y j:Int))-(dB y j:Int))) ?_)
     refine Lz 8 3 3 1 j 1 9 10 11 (λi0=> .int ((dB (x-y) i0:Nat):Int)) (λ_=> .int (((dB x j:Int)-(En x y j:Int))-(dB y j:Int))) (λi0=> .int ((dB (x-y) i0:Nat):Int)) (λi hi=>rfl) (λi hi=>by(obtain rfl:i=0:=(ω));exact(show AV.int (dB (x-y) j:Int)=_ from congrArg AV.int ω)) ?_
     refine Aa 6 (Ao ((j:Int)+1) ((j+1:Nat):Int) (Aa 2 (Ee 6 (.int 0) (.int (En x y (j+1):Int)) (Rl (congrArg AV.int ω)) ?_)))
     exact Ew [0,1,5,6,7] [(11,9)] 10 0 hA0 [(3,1,1,(λ_=> .int (((dB x j:Int)-(En x y j:Int))-(dB y j:Int)))),(3,1,j+1,(λi0=> .int ((dB (x-y) i0:Nat):Int)))] ⟨(Bi λ_ _=>rfl),(Bi λ_ _=>rfl),trivial⟩ (hJ1 _ _ (by omega:nB x-(j+1)<nB x-j) ⟨j+1,ω,rfl,trivial,.inr ⟨Nat.succ_pos _,rfl⟩⟩)
   ·
    refine Aa 15 (Cu 32 (((dB x j:Int)-(En x y j:Int))<0) (λhx8 hx8d=>?_) (λhx8 hx8d=>?_))
    ·
     refine Aa 3 (Ao (((dB x j:Int)-(En x y j:Int))+1000000000) (((dB x j:Int)-(En x y j:Int))+1000000000) (Aa 7 (Iu 10 3 1 1 (λ_=> .int (((dB x j:Int)-(En x y j:Int))+1000000000)) ?_)))
     refine Lz 8 3 3 1 j 1 9 10 11 (λi0=> .int ((dB (x-y) i0:Nat):Int)) (λ_=> .int (((dB x j:Int)-(En x y j:Int))+1000000000)) (λi0=> .int ((dB (x-y) i0:Nat):Int)) (λi hi=>rfl) (λi hi=>by(obtain rfl:i=0:=(ω));exact(show AV.int (dB (x-y) j:Int)=_ from congrArg AV.int ω)) ?_
     refine Aa 6 (Ao ((j:Int)+1) ((j+1:Nat):Int) (Aa 2 (Ee 6 (.int 1) (.int (En x y (j+1):Int)) (Rl (congrArg AV.int ω)) ?_)))
     exact Ew [0,1,5,6,7] [(11,9)] 10 0 hA0 [(3,1,1,(λ_=> .int (((dB x j:Int)-(En x y j:Int))+1000000000))),(3,1,j+1,(λi0=> .int ((dB (x-y) i0:Nat):Int)))] ⟨(Bi λ_ _=>rfl),(Bi λ_ _=>rfl),trivial⟩ (hJ1 _ _ (by omega:nB x-(j+1)<nB x-j) ⟨j+1,ω,rfl,trivial,.inr ⟨Nat.succ_pos _,rfl⟩⟩)
    ·
     refine Aa 6 (Iu 10 3 1 1 (λ_=> .int ((dB x j:Int)-(En x y j:Int))) ?_)
     refine Lz 8 3 3 1 j 1 9 10 11 (λi0=> .int ((dB (x-y) i0:Nat):Int)) (λ_=> .int ((dB x j:Int)-(En x y j:Int))) (λi0=> .int ((dB (x-y) i0:Nat):Int)) (λi hi=>rfl) (λi hi=>by(obtain rfl:i=0:=(ω));exact(show AV.int (dB (x-y) j:Int)=_ from congrArg AV.int ω)) ?_
     refine Aa 6 (Ao ((j:Int)+1) ((j+1:Nat):Int) (Aa 2 (Ee 6 (.int 0) (.int (En x y (j+1):Int)) (Rl (congrArg AV.int ω)) ?_)))
     exact Ew [0,1,5,6,7] [(11,9)] 10 0 hA0 [(3,1,1,(λ_=> .int ((dB x j:Int)-(En x y j:Int)))),(3,1,j+1,(λi0=> .int ((dB (x-y) i0:Nat):Int)))] ⟨(Bi λ_ _=>rfl),(Bi λ_ _=>rfl),trivial⟩ (hJ1 _ _ (by omega:nB x-(j+1)<nB x-j) ⟨j+1,ω,rfl,trivial,.inr ⟨Nat.succ_pos _,rfl⟩⟩)
  ·
   exact Aa 6 (Jg 9 [5] 3 1 j (λi0=> .int ((dB (x-y) i0:Nat):Int)) (Bi λ_ _=>rfl) (Aa 3 (Aj (Ll (x-y) j (by rw[show j=nB x by omega];exact AdN) ω) (Aa 4 (Br)))))
def Nf (x y i k p:Nat):Nat:=if p<i+k then dB (Pn x y i k) p else dB (x%bB^i*y) p
theorem Akb (x y i p:Nat):dB (x%bB^i*y) p=Nf x y i 0 p:=by
 unfold Nf
 split
 rw[AgY]
 rfl
theorem AdQ (x y i k:Nat):Nf x y i k (i+k)=dB (x%bB^i*y) (i+k):=if_neg ω
theorem mJ {x y i k p:Nat} {z:Int} (hz:z=((pnB x y i k%1000000000:Nat):Int)):(if p=i+k then AV.int z else AV.int (Nf x y i k p:Int))=AV.int (Nf x y i (k+1) p:Int):=by
 subst hz
 unfold Nf
 by_cases h:p=i+k
 subst h
 rw[if_pos rfl,if_pos ω,Aix]
 rw[if_neg h]
 by_cases g:p<i+k
 rw[if_pos g,if_pos ω,AfX g]
 rw[if_neg g,if_neg ω]
theorem Agz {x y i k:Nat} (hy:nB y<=k) (hc:Pm x y i k=0) (p:Nat):Nf x y i k p=dB (x%bB^(i+1)*y) p:=by
 unfold Nf
 split
 rw[gZ hy]
 exact(Adm hy hc ω).symm
theorem Ael (x y k:Nat):0=dB (x%bB^0*y) k:=by
 rw[Nat.pow_zero,Nat.mod_one,Nat.zero_mul]
 exact(Te (by rw[Vz];exact Nat.zero_le _)).symm
theorem AfC (x y i k:Nat):dB x i*dB y k<=999999998000000001:=by
 have h1:dB x i<1000000000:=Ic x i
 have h2:dB y k<1000000000:=Ic y k
 exact Nat.le_trans (Nat.mul_le_mul (show dB x i<=999999999 by omega) (show dB y k<=999999999 by omega)) δ
theorem Ac8 {x y i k:Nat} (h:nB y<=k):dB x i*dB y k=0:=by rw[Te h,Nat.mul_zero]
theorem cL (x y:Nat) (hx:nB x<=1000) (hy:nB y<=1000):AF Tryz.prog 38 [Dz x,Dz y] (Dz (x*y)):=by
 refine Ai func38 rfl λB D0 hA0=>?_
 refine Aa 11 (Ao ((nB x:Int)+(nB y:Int)) ((nB x+nB y:Nat):Int) (Cc (.osl 0 1 (nB x+nB y)) (.new 0 (.vec 3 1 (nB x+nB y) (λ_=> .int 0))) (Jy 22 (.tmp 14) (.tmp 14) κ underlying22 1 8 (.int .i64 0) κ κ δ ((nB x+nB y:Nat):Int) (nB x+nB y) ω κ κ ω ω ω 0 (.int 0) κ) (Aa 10 (Sp 0 3 1 (nB x+nB y) (λ_=> .int 0) (λi0=> .int ((dB (x%bB^0*y) i0:Nat):Int)) (λx9 hx9=>congrArg (λq:Nat=>AV.int (q:Int)) (Ael x y x9)) (Ue (keep:=[0,1,5,6]) (nB x) (λi=>⟨[(0,Dz x),(1,Dz y),(5,.osl 0 1 (nB x+nB y)),(6,.int (i:Int))],[(0,.vec 3 1 (nB x+nB y) (λi0=> .int ((dB (x%bB^i*y) i0:Nat):Int)))],1,66⟩) (λi hi J1 hJ1=>?_) ?_)))))
 ·
  refine Aa 7 (Ev 19 (decide ((i:Int)<(nB x:Int))) true (decide_eq_true ω) (Aa 18 (Sp 0 3 1 (nB x+nB y) (λi0=> .int ((dB (x%bB^i*y) i0:Nat):Int)) (λi0=> .int ((Nf x y i 0 i0:Nat):Int)) (λx9 hx9=>congrArg (λq:Nat=>AV.int (q:Int)) (Akb x y i x9)) (Ee 7 (.int 0) (.int ((Pm x y i 0:Nat):Int)) (Rl (congrArg (λq:Nat=>AV.int (q:Int)) (AkG x y i).symm)) ?_))))
  refine Wg [0,1,5,6,7,8] (λm s=>∃k,m=nB x+nB y+1-(i+k)/\(k<=nB x+nB y)/\s=⟨[(0,Dz x),(1,Dz y),(5,.osl 0 1 (nB x+nB y)),(6,.int (i:Int)),(7,.int (Pm x y i k:Int)),(8,.int (k:Int))],[(0,.vec 3 1 (nB x+nB y) (λi0=> .int ((Nf x y i k i0:Nat):Int)))],1,66⟩) (nB x+nB y+1-(i+0)) ⟨0,rfl,Nat.zero_le _,κ⟩ ?_
  rintro _ _ ⟨k,rfl,hF,rfl⟩ J2 hJ2
  have hr:=λh=>@Ado x y i k ω h
  have q1:dB x i<1000000000:=Ic x i
  have q2:dB y k<1000000000:=Ic y k
  have q3:=AjI x y i k
  have q4:=AfC x y i k
  have q5:=@Ac8 x y i k
  have q6:pnB x y i k=Nf x y i k (i+k)+Pm x y i k+dB x i*dB y k:=by rw[AdQ];rfl
  have q7:Pm x y i (k+1)=pnB x y i k/1000000000:=Aiw x y i k
  have q8:Nf x y i k (i+k)<1000000000:=by rw[AdQ];exact Ic _ _
  refine Aa 8 (Cu 26 ((k:Int)<(nB y:Int)) (λhx1 hx1d=>?_) (λhx1 hx1d=>?_))
  ·
   refine Aa 15 (Ao ((i:Int)+(k:Int)) ((i+k:Nat):Int) (Dm (i+k) (nB x+nB y) (Cc (.int (Nf x y i k (i+k):Int)) (.read 0) (El 3 (.tmp 36) κ isAgg3 0 (i+k) 0 1 κ 3 (nB x+nB y) (λi0=> .int ((Nf x y i k i0:Nat):Int)) κ ω δ) (Aa 1 (Ao ((Nf x y i k (i+k):Int)+(Pm x y i k:Int)) ((Nf x y i k (i+k)+Pm x y i k:Nat):Int) (Aa 12 (Ev 43 (decide ((k:Int)<(nB y:Int))) true hx1 (Aa 1 (Be [(3,Ax (Dz x) i,.none),(7,Ax (Dz y) k,.none),(9,.int ((dB x i*dB y k:Nat):Int),.none),(10,.int ((Nf x y i k (i+k)+Pm x y i k+dB x i*dB y k:Nat):Int),.none)] [0,1,5,6,8,9] ⟨Eg i (nB x),Eg k (nB y),As (.int .i64 (IntKind.wrap .i64 ((dB x i:Int)*(dB y k:Int)))) (congrArg (Value.int .i64) (by rw[<-Int.natCast_mul];exact IntWalk.i64_in _ ω)),As (.int .i64 (IntKind.wrap .i64 (((Nf x y i k (i+k)+Pm x y i k:Nat):Int)+((dB x i*dB y k:Nat):Int)))) η,trivial⟩ (Aa 6 (Ao ((i:Int)+(k:Int)) ((i+k:Nat):Int) (Aa 1 (Dx (.int .i64 (Int.tmod ((Nf x y i k (i+k)+Pm x y i k+dB x i*dB y k:Nat):Int) 1000000000)) (.int .i64 (((Nf x y i k (i+k)+Pm x y i k+dB x i*dB y k:Nat):Int)%1000000000)) ?_ (congrArg (Value.int .i64) (Int.tmod_eq_emod_of_nonneg ω)))))))))))))))
   refine Dm (i+k) (nB x+nB y) (Cc (.lit Go.undef) (.set 0 (.vec 3 1 (nB x+nB y) (λxi=>if xi=i+k then .int (((Nf x y i k (i+k)+Pm x y i k+dB x i*dB y k:Nat):Int)%1000000000) else (λi0=> .int ((Nf x y i k i0:Nat):Int)) xi))) (Eb 3 (.tmp 61) (.tmp 60) κ 1 sizeOf3 0 (i+k) κ 3 (nB x+nB y) (λi0=> .int ((Nf x y i k i0:Nat):Int)) κ ω κ κ κ (.int (((Nf x y i k (i+k)+Pm x y i k+dB x i*dB y k:Nat):Int)%1000000000)) κ) (Aa 2 (Sp 0 3 1 (nB x+nB y) (λxi=>if xi=i+k then .int (((Nf x y i k (i+k)+Pm x y i k+dB x i*dB y k:Nat):Int)%1000000000) else (λi0=> .int ((Nf x y i k i0:Nat):Int)) xi) (λi0=> .int ((Nf x y i (k+1) i0:Nat):Int)) (λx9 hx9=>mJ ω) (Aa 2 (Dx (.int .i64 (IntKind.wrap .i64 (Int.tdiv ((Nf x y i k (i+k)+Pm x y i k+dB x i*dB y k:Nat):Int) 1000000000))) (.int .i64 (Pm x y i (k+1):Int)) ?_ (congrArg (Value.int .i64) (by rw[Int.tdiv_eq_ediv_of_nonneg ω];exact(IntWalk.i64_in _ ω).trans ω)))))))
   exact Aa 6 (Ao ((k:Int)+1) ((k+1:Nat):Int) (Aa 2 (Pe [0,1,5,6,7,8] (hJ2 _ _ (by omega:nB x+nB y+1-(i+(k+1))<nB x+nB y+1-(i+k)) ⟨k+1,rfl,ω,rfl⟩))))
  ·
   refine Aa 5 (Cu 29 ((0:Int)<(Pm x y i k:Int)) (λhx2 hx2d=>?_) (λhx2 hx2d=>?_))
   ·
    refine Aa 10 (Ao ((i:Int)+(k:Int)) ((i+k:Nat):Int) (Dm (i+k) (nB x+nB y) (Cc (.int (Nf x y i k (i+k):Int)) (.read 0) (El 3 (.tmp 36) κ isAgg3 0 (i+k) 0 1 κ 3 (nB x+nB y) (λi0=> .int ((Nf x y i k i0:Nat):Int)) κ ω δ) (Aa 1 (Ao ((Nf x y i k (i+k):Int)+(Pm x y i k:Int)) ((Nf x y i k (i+k)+Pm x y i k:Nat):Int) (Aa 12 (Ev 43 (decide ((k:Int)<(nB y:Int))) false hx1 (Aa 8 (Ao ((i:Int)+(k:Int)) ((i+k:Nat):Int) (Aa 1 (Dx (.int .i64 (Int.tmod ((Nf x y i k (i+k)+Pm x y i k:Nat):Int) 1000000000)) (.int .i64 (((Nf x y i k (i+k)+Pm x y i k:Nat):Int)%1000000000)) ?_ (congrArg (Value.int .i64) (Int.tmod_eq_emod_of_nonneg ω)))))))))))))
    refine Dm (i+k) (nB x+nB y) (Cc (.lit Go.undef) (.set 0 (.vec 3 1 (nB x+nB y) (λxi=>if xi=i+k then .int (((Nf x y i k (i+k)+Pm x y i k:Nat):Int)%1000000000) else (λi0=> .int ((Nf x y i k i0:Nat):Int)) xi))) (Eb 3 (.tmp 61) (.tmp 60) κ 1 sizeOf3 0 (i+k) κ 3 (nB x+nB y) (λi0=> .int ((Nf x y i k i0:Nat):Int)) κ ω κ κ κ (.int (((Nf x y i k (i+k)+Pm x y i k:Nat):Int)%1000000000)) κ) (Aa 2 (Sp 0 3 1 (nB x+nB y) (λxi=>if xi=i+k then .int (((Nf x y i k (i+k)+Pm x y i k:Nat):Int)%1000000000) else (λi0=> .int ((Nf x y i k i0:Nat):Int)) xi) (λi0=> .int ((Nf x y i (k+1) i0:Nat):Int)) (λx9 hx9=>mJ ω) (Aa 2 (Dx (.int .i64 (IntKind.wrap .i64 (Int.tdiv ((Nf x y i k (i+k)+Pm x y i k:Nat):Int) 1000000000))) (.int .i64 (Pm x y i (k+1):Int)) ?_ (congrArg (Value.int .i64) (by rw[Int.tdiv_eq_ediv_of_nonneg ω];exact(IntWalk.i64_in _ ω).trans ω)))))))
    exact Aa 6 (Ao ((k:Int)+1) ((k+1:Nat):Int) (Aa 2 (Pe [0,1,5,6,7,8] (hJ2 _ _ (by omega:nB x+nB y+1-(i+(k+1))<nB x+nB y+1-(i+k)) ⟨k+1,rfl,ω,rfl⟩))))
   ·
    exact Aa 9 (Ao ((i:Int)+1) ((i+1:Nat):Int) (Aa 2 (Sp 0 3 1 (nB x+nB y) (λi0=> .int ((Nf x y i k i0:Nat):Int)) (λi0=> .int ((dB (x%bB^(i+1)*y) i0:Nat):Int)) (λx9 hx9=>congrArg (λq:Nat=>AV.int (q:Int)) (Agz (k:=k) ω ω x9)) (Pe [0,1,5,6] hJ1))))
 ·
  exact Aa 7 (Ev 19 (decide ((nB x:Int)<(nB x:Int))) false (decide_eq_false ω) (Aa 8 (Jg 0 [5] 3 1 (nB x+nB y) (λi0=> .int ((dB (x%bB^(nB x)*y) i0:Nat):Int)) (Bi λ_ _=>rfl) (Aa 3 (Aj (Ll (x%bB^nB x*y) (nB x+nB y) (Adn x y (nB x)) ω) (Aa 4 (Ch (Dz (x%bB^nB x*y)) (by rw[Wu (Nat.le_refl (nB x))]))))))))
end Go.Proofs.YtbggmndaahbojaaGreat