/- Part 11 of the proof of IB.row_holds: no condition beyond the row's. -/
import Derived.Test.YtbggmndaahbojaaGreatIb10
import Derived.Laws.Externs
import Derived.Shelf.Spec.BitsCarry
set_option maxRecDepth 100000
set_option maxHeartbeats 40000000
namespace Go.Proofs.YtbggmndaahbojaaGreat
open Go.Proofs.Tryz
open Go.RowKit
theorem aP:(Tryz.prog.info? 92).map (λi=>(i.zero,i.size,i.bytes))=some (some (.int .u64 0),1,8):=κ
def Ld (l:List Nat):Array Value:=(Gw l).toArray
theorem Xc (l:List Nat) (i:Nat) (h:i<l.length):(Ld l)[i]?=some (.int .u64 (dg l i:Int)):=by simpa [Ld] using Ct l i h
theorem AdU (l:List Nat) (i x:Nat):(Ld l).setIfInBounds i (.int .u64 (x:Int))=Ld (l.set i x):=by simp[Ld,Gw,List.map_set]
theorem Ac5 (n:Nat):madeCells (Value.int .u64 0).cells (n*1)=Ld (List.replicate n 0):=by
 apply Array.ext
 simp[madeCells,Ld,Gw]
 intro i h1 h2
 simp[madeCells,Ld,Gw,Value.cells,Nat.mod_one]
theorem Iz (n:Nat) (hn:n<=10000000) (w:World):
  (Instr.makeSlice 95 (.int .i64 (n:Nat)) (.int .i64 (n:Nat))).run Tryz.prog w= .ok (.slice (some ⟨w.heap.size,0,none⟩) n n) (w.alloc (.cells (Ld (List.replicate n 0)) 92)):=by
 obtain⟨i0,hi0,hz0,hz1,hz2⟩:=info_parts aP
 have:=run_makeSlice w 95 92 i0 _ underlying95 hi0 hz0 .i64 .i64 (n:Nat) (n:Nat) ω ω (by rw[hz1];simp;omega) (by rw[hz2];omega) ω
 rw[this,hz1]
 simp only[Int.toNat_natCast,Ac5]
structure Oh (w wr:World) (ls:List Nat):Prop where
 row:wr.heap[w.heap.size]?=some (.cells (Ld ls) 92 (0,0))
 below:Below w.heap.size w wr
 size:wr.heap.size=w.heap.size+1
theorem Oh.start (w:World) (n:Nat):Oh w (w.alloc (.cells (Ld (List.replicate n 0)) 92)) (List.replicate n 0):=
 ⟨by show (w.heap.push _)[w.heap.size]?=_;simp,Ψ.alloc ζ _,by simp⟩
theorem Oh.cell {w wr:World} {ls:List Nat} (h:Oh w wr ls) {i:Nat} (hi:i<ls.length):wr.cell? ⟨w.heap.size,i,none⟩=some (.int .u64 (dg ls i:Int)):=by
 rw[<-Xc ls i hi];simp[World.cell?,h.row]
theorem Oh.frozen {w wr:World} {ls:List Nat} (h:Oh w wr ls) (i:Nat):wr.frozen? ⟨w.heap.size,i,none⟩=false:=by simp[World.frozen?,h.row]
theorem Oh.set {w wr:World} {ls:List Nat} (h:Oh w wr ls) (i x:Nat):Oh w (wr.setCell ⟨w.heap.size,i,none⟩ (.int .u64 (x:Int))) (ls.set i x):=by
 refine⟨?_,h.below.setCell ζ _,?_⟩
 rw[<-AdU]
 have:=h.row
 simp[World.setCell,Array.getElem?_modify,this]
 have:=h.size
 simpa [World.setCell] using this
theorem Oh.sees {w wr:World} {ls:List Nat} (h:Oh w wr ls) {n:Nat} (hn:ls.length=n) (c:Nat):Hc wr w.heap.size wr.heap.size 1 (.slice (some ⟨w.heap.size,0,none⟩) n c) n (Gw ls):=by
 refine⟨by rw[Cd];omega,.inr ⟨_,0,c,rfl,⟨Nat.le_refl _,by have:=h.size;omega⟩,λj u hu=>?_⟩⟩
 have hj:=(List.getElem?_eq_some_iff.1 hu).1
 rw[Cd] at hj
 rw[Nat.zero_add,h.cell hj,<-Ct ls j hj]
 exact hu
def Ek (w:World) (n:Nat) (e:Ending) (w':World):Prop:=∃v',e= .returned v'/\Bf w' w.heap.size w'.heap.size v' n/\Below w.heap.size w w'
theorem Oh.done {w wr:World} {ls:List Nat} (h:Oh w wr ls) (hd:Hp ls) (hl:ls.length<=1000000) {n:Nat} (hn:ls.length=n) {m:Nat} (hm:val ls=m):
  Calls Tryz.prog 54 #[.slice (some ⟨w.heap.size,0,none⟩) n n] wr (Ek w m):=by
 subst hn hm
 refine(Qp ls _ _ _ wr (h.sees rfl ls.length) ζ hd hl).mono ?_
 rintro e w' ⟨v',rfl,hv,rfl⟩
 exact⟨v',rfl,hv,h.below⟩
theorem Mv:Bw=18446744073709551616:=rfl
theorem Qv (x y c:Nat) (hc:c<=1) (w:World):(callFunc 183 #[.int .u64 (x:Int),.int .u64 (y:Int),.int .u64 (c:Int)]).run Tryz.prog w=
  .ok (.value (.tuple #[.int .u64 (((x+y+c)%Bw:Nat):Int),.int .u64 (((x+y+c)/Bw:Nat):Int)])) w:=by
 rw[run_callFunc_extern func183 κ κ κ (e:=add64Entry) κ,run_add64 x y c ω ω ω ω]
 rw[Mv]
 simp only[Result.andThen]
 congr 5<;>omega
theorem yN (x y c:Nat) (hc:c<=1) (w:World):(callFunc 184 #[.int .u64 (x:Int),.int .u64 (y:Int),.int .u64 (c:Int)]).run Tryz.prog w=
  .ok (.value (.tuple #[.int .u64 (((x+Bw-y-c)%Bw:Nat):Int),.int .u64 ((if x<y+c then 1 else 0:Nat):Int)])) w:=by
 rw[run_callFunc_extern func184 κ κ κ (e:=sub64Entry) κ,run_sub64 x y c hc]
 rw[Mv]
 rfl
theorem AeR {x y c:Nat} (hx:x<Bw) (hy:y<Bw) (hc:c<=1):(x+y+c)/Bw<=1:=by
 have:(x+y+c)/Bw<2:=by
  rw[Nat.div_lt_iff_lt_mul Ec]
  have:=Xr;omega
 omega
structure eV (x y:List Nat) (w:World) (k c:Nat) (ls:List Nat) (wr:World):Prop where
 buf:Oh w wr ls
 len:ls.length=x.length+1
 dig:Hp ls
 sum:lo x k+lo y k=lo ls k+Bw^k*c
 carry:c<=1
theorem eV.step {x y:List Nat} {w:World} {k c:Nat} {ls:List Nat} {wr:World} (h:eV x y w k c ls wr) (hk:k<x.length) (hx:Hp x) (hy:Hp y):
  eV x y w (k+1) ((dg x k+dg y k+c)/Bw) (ls.set k ((dg x k+dg y k+c)%Bw)) (wr.setCell ⟨w.heap.size,k,none⟩ (.int .u64 (((dg x k+dg y k+c)%Bw:Nat):Int))):=by
 refine⟨h.buf.set _ _,by rw[List.length_set];exact h.len,h.dig.set (Nat.mod_lt _ Ec),?_,AeR (Hj hx k) (Hj hy k) h.carry⟩
 rw[Ea,Ea,Ea,Sd (Nat.le_refl k),Mz (by have:=h.len;omega),Nat.pow_succ]
 exact AaM h.sum (Nat.mod_add_div _ _).symm
theorem eV.fin {x y:List Nat} {w:World} {c:Nat} {ls:List Nat} {wr:World} (h:eV x y w x.length c ls wr) (hy:y.length<=x.length):val (ls.set x.length c)=val x+val y:=by
 have h1:=h.sum
 rw[Il ζ,Il hy] at h1
 rw[<-Il (l:=ls.set x.length c) (i:=x.length+1) (by rw[List.length_set,h.len];exact Nat.le_refl _),Ea,Sd ζ,Mz (by rw[h.len];omega)]
 exact h1.symm
theorem AeQ (n m:Nat) (v v':Value) (l0 h0 l1 h1:Nat) (w:World) (h:Bf w l0 h0 v n) (h':Bf w l1 h1 v' m) (hh:h0<=w.heap.size) (hh':h1<=w.heap.size) (hl:(Ae n).length<=900000) (hl':(Ae m).length<=900000):
  Calls Tryz.prog 151 #[v,v'] w (Ek w (n+m)):=by
 have hs:=h.1
 have hs':=h'.1
 obtain⟨A,c,rfl⟩:=hs.slice
 obtain⟨A',c',rfl⟩:=hs'.slice
 have HS:=Δ hs
 have HS':=Δ hs'
 clear h h' hs hs'
 by_cases hlt:(Ae n).length<(Ae m).length
 case neg=>
  have hmk:=Iz ((Ae n).length+1) ω w
  rw[show (((Ae n).length+1:Nat):Int)=((Ae n).length:Int)+1 by omega] at hmk
  obtain⟨W,hW⟩:∃W,W=w.alloc (.cells (Ld (List.replicate ((Ae n).length+1) 0)) 92):=⟨_,rfl⟩
  rw[<-hW] at hmk
  have J0:eV (Ae n) (Ae m) w 0 0 (List.replicate ((Ae n).length+1) 0) W:=⟨by rw[hW];exact Oh.start _ _,by simp,Hp.zeros _,by simp[Ml],ω⟩
  have HJ0:=Δ J0
  have hadd:=Qv
  clear J0 hW
  obtain⟨N,hN⟩:∃N,N=(Ae n).length:=⟨_,rfl⟩
  obtain⟨M,hM⟩:∃M,M=(Ae m).length:=⟨_,rfl⟩
  rw[<-hN] at hl hmk
  rw[<-hM] at hl'
  rw[<-hN,<-hM] at hlt ⊢
  have HN:=Δ hN
  have HM:=Δ hM
  clear hN hM
  go_enter func151,ntmps151
  go_wp2_with fail
  go_loopw [6,7,8,22] (λcv _ _ i wr=>∃(k cc:Nat) (ls:List Nat),k<=N/\i= .int .i64 (k:Nat)/\cv= .int .u64 (cc:Int)/\Hid (eV (Ae n) (Ae m) w k cc ls wr)) (λ_ _ _ i _=>N-(intOf i).toNat)
  case atStart=>exact⟨0,0,_,Nat.zero_le _,rfl,rfl,HJ0⟩
  case round=>
   obtain⟨k,cc,ls,hk,rfl,rfl,HJ⟩:=hrel
   clear HJ0 hmk
   have hcc:=HJ.out.carry
   have hlen:ls.length=N+1:=by rw[HN.out];exact HJ.out.len
   have gB:∀j,j<N+1->wr.cell? ⟨w.heap.size,j,none⟩=some (.int .u64 (dg ls j:Int)):=λj h=>HJ.out.buf.cell ω
   have gF:∀j,wr.frozen? ⟨w.heap.size,j,none⟩=false:=HJ.out.buf.frozen
   clear hlen
   by_cases hkN:k=N
   ·
    subst hkN
    have gb:=gB k ω
    have gf:=gF k
    clear gB gF hadd
    have HFIN:Hid (Calls Tryz.prog 54 #[.slice (some ⟨w.heap.size,0,none⟩) (k+1) (k+1)] (wr.setCell ⟨w.heap.size,k,none⟩ (.int .u64 (cc:Int))) (Ek w (n+m))):=by
     have hJ:=HJ.out
     rw[HN.out] at hJ ⊢
     have hv:=hJ.fin (by rw[<-HN.out,<-HM.out];omega)
     rw[Bt,Bt] at hv
     exact(hJ.buf.set _ _).done (hJ.dig.set (by have:=Xr;omega)) (by rw[List.length_set,hJ.len,<-HN.out];omega) (by rw[List.length_set,hJ.len]) hv
    go_wp2_with fail
    refine HFIN.out.mono ?_
    rintro e w' ⟨vr,rfl,hv,hb⟩
    go_wp2_with fail
    go_ret
    exact⟨vr,rfl,hv,hb⟩
   ·
    have hkn:k<N:=by omega
    have hki:(k:Int)<(N:Int):=by omega
    obtain⟨b,o,c1,e,_,hb1,hc⟩:=HS.out.pos (by have:=HN.out;omega)
    have hA:A=some ⟨b,o,none⟩:=by cases e;rfl
    subst hA
    clear e
    have g0:wr.cell? ⟨b,o+k,none⟩=some (.int .u64 (dg (Ae n) k:Int)):=(HJ.out.buf.below.cell (p:=⟨b,o+k,none⟩) (by show b<_;omega)).trans (hc _ _ (Ct _ _ (by have:=HN.out;omega)))
    have gb:=gB k ω
    have gf:=gF k
    have HST:=Δ (HJ.out.step (by have:=HN.out;omega) (Cb n) (Cb m))
    clear hc gB gF
    by_cases hkM:k<M
    ·
     obtain⟨b',o',c1',e,_,hb1',hc'⟩:=HS'.out.pos (by have:=HM.out;omega)
     have hA':A'=some ⟨b',o',none⟩:=by cases e;rfl
     subst hA'
     clear e
     have g1:wr.cell? ⟨b',o'+k,none⟩=some (.int .u64 (dg (Ae m) k:Int)):=(HJ.out.buf.below.cell (p:=⟨b',o'+k,none⟩) (by show b'<_;omega)).trans (hc' _ _ (Ct _ _ (by have:=HM.out;omega)))
     have hkMi:(k:Int)<(M:Int):=by omega
     clear hc'
     generalize dg (Ae n) k=x at*
     generalize dg (Ae m) k=y at*
     go_wp2_with (rw[hadd _ _ _ hcc])
     go_round
     case rel=>exact⟨k+1,_,_,ω,rfl,rfl,HST⟩
     case measure=>simp only[intOf];omega
    ·
     have hy:dg (Ae m) k=0:=Mi (by have:=HM.out;omega)
     rw[hy] at HST
     have hkMi:¬(k:Int)<(M:Int):=by omega
     have hadd0:∀x:Nat,(callFunc 183 #[.int .u64 (x:Int),.int .u64 0,.int .u64 (cc:Int)]).run Tryz.prog wr= .ok (.value (.tuple #[.int .u64 (((x+0+cc)%Bw:Nat):Int),.int .u64 (((x+0+cc)/Bw:Nat):Int)])) wr:=λx=>hadd x 0 cc hcc wr
     generalize dg (Ae n) k=x at*
     go_wp2_with (rw[hadd0])
     go_round
     case rel=>exact⟨k+1,_,_,ω,rfl,rfl,HST⟩
     case measure=>simp only[intOf];omega
 case pos=>
  rw[Nat.add_comm n m]
  have hmk:=Iz ((Ae m).length+1) ω w
  rw[show (((Ae m).length+1:Nat):Int)=((Ae m).length:Int)+1 by omega] at hmk
  obtain⟨W,hW⟩:∃W,W=w.alloc (.cells (Ld (List.replicate ((Ae m).length+1) 0)) 92):=⟨_,rfl⟩
  rw[<-hW] at hmk
  have J0:eV (Ae m) (Ae n) w 0 0 (List.replicate ((Ae m).length+1) 0) W:=⟨by rw[hW];exact Oh.start _ _,by simp,Hp.zeros _,by simp[Ml],ω⟩
  have HJ0:=Δ J0
  have hadd:=Qv
  clear J0 hW
  obtain⟨M,hM⟩:∃M,M=(Ae m).length:=⟨_,rfl⟩
  obtain⟨N,hN⟩:∃N,N=(Ae n).length:=⟨_,rfl⟩
  rw[<-hM] at hl' hmk
  rw[<-hN] at hl
  rw[<-hM,<-hN] at hlt ⊢
  have HM:=Δ hM
  have HN:=Δ hN
  clear hM hN
  go_enter func151,ntmps151
  go_wp2_with fail
  go_loopw [6,7,8,22] (λcv _ _ i wr=>∃(k cc:Nat) (ls:List Nat),k<=M/\i= .int .i64 (k:Nat)/\cv= .int .u64 (cc:Int)/\Hid (eV (Ae m) (Ae n) w k cc ls wr)) (λ_ _ _ i _=>M-(intOf i).toNat)
  case atStart=>exact⟨0,0,_,Nat.zero_le _,rfl,rfl,HJ0⟩
  case round=>
   obtain⟨k,cc,ls,hk,rfl,rfl,HJ⟩:=hrel
   clear HJ0 hmk
   have hcc:=HJ.out.carry
   have hlen:ls.length=M+1:=by rw[HM.out];exact HJ.out.len
   have gB:∀j,j<M+1->wr.cell? ⟨w.heap.size,j,none⟩=some (.int .u64 (dg ls j:Int)):=λj h=>HJ.out.buf.cell ω
   have gF:∀j,wr.frozen? ⟨w.heap.size,j,none⟩=false:=HJ.out.buf.frozen
   clear hlen
   by_cases hkN:k=M
   ·
    subst hkN
    have gb:=gB k ω
    have gf:=gF k
    clear gB gF hadd
    have HFIN:Hid (Calls Tryz.prog 54 #[.slice (some ⟨w.heap.size,0,none⟩) (k+1) (k+1)] (wr.setCell ⟨w.heap.size,k,none⟩ (.int .u64 (cc:Int))) (Ek w (m+n))):=by
     have hJ:=HJ.out
     rw[HM.out] at hJ ⊢
     have hv:=hJ.fin (by rw[<-HM.out,<-HN.out];omega)
     rw[Bt,Bt] at hv
     exact(hJ.buf.set _ _).done (hJ.dig.set (by have:=Xr;omega)) (by rw[List.length_set,hJ.len,<-HM.out];omega) (by rw[List.length_set,hJ.len]) hv
    go_wp2_with fail
    refine HFIN.out.mono ?_
    rintro e w' ⟨vr,rfl,hv,hb⟩
    go_wp2_with fail
    go_ret
    exact⟨vr,rfl,hv,hb⟩
   ·
    have hkn:k<M:=by omega
    have hki:(k:Int)<(M:Int):=by omega
    obtain⟨b,o,c1,e,_,hb1,hc⟩:=HS'.out.pos (by have:=HM.out;omega)
    have hA:A'=some ⟨b,o,none⟩:=by cases e;rfl
    subst hA
    clear e
    have g0:wr.cell? ⟨b,o+k,none⟩=some (.int .u64 (dg (Ae m) k:Int)):=(HJ.out.buf.below.cell (p:=⟨b,o+k,none⟩) (by show b<_;omega)).trans (hc _ _ (Ct _ _ (by have:=HM.out;omega)))
    have gb:=gB k ω
    have gf:=gF k
    have HST:=Δ (HJ.out.step (by have:=HM.out;omega) (Cb m) (Cb n))
    clear hc gB gF
    by_cases hkM:k<N
    ·
     obtain⟨b',o',c1',e,_,hb1',hc'⟩:=HS.out.pos (by have:=HN.out;omega)
     have hA':A=some ⟨b',o',none⟩:=by cases e;rfl
     subst hA'
     clear e
     have g1:wr.cell? ⟨b',o'+k,none⟩=some (.int .u64 (dg (Ae n) k:Int)):=(HJ.out.buf.below.cell (p:=⟨b',o'+k,none⟩) (by show b'<_;omega)).trans (hc' _ _ (Ct _ _ (by have:=HN.out;omega)))
     have hkMi:(k:Int)<(N:Int):=by omega
     clear hc'
     generalize dg (Ae m) k=x at*
     generalize dg (Ae n) k=y at*
     go_wp2_with (rw[hadd _ _ _ hcc])
     go_round
     case rel=>exact⟨k+1,_,_,ω,rfl,rfl,HST⟩
     case measure=>simp only[intOf];omega
    ·
     have hy:dg (Ae n) k=0:=Mi (by have:=HN.out;omega)
     rw[hy] at HST
     have hkMi:¬(k:Int)<(N:Int):=by omega
     have hadd0:∀x:Nat,(callFunc 183 #[.int .u64 (x:Int),.int .u64 0,.int .u64 (cc:Int)]).run Tryz.prog wr= .ok (.value (.tuple #[.int .u64 (((x+0+cc)%Bw:Nat):Int),.int .u64 (((x+0+cc)/Bw:Nat):Int)])) wr:=λx=>hadd x 0 cc hcc wr
     generalize dg (Ae m) k=x at*
     go_wp2_with (rw[hadd0])
     go_round
     case rel=>exact⟨k+1,_,_,ω,rfl,rfl,HST⟩
     case measure=>simp only[intOf];omega
theorem Oh.drew {w wr:World} {ls:List Nat} (h:Oh w wr ls):Oh w wr.drew ls:=⟨h.row,h.below.drew,h.size⟩
theorem Adf {r u:Nat} (hu:u<2^r) (q:Nat):u|||(q*2^r)=u+q*2^r:=by
 have:=Nat.shiftLeft_add_eq_or_of_lt hu q
 rw[Nat.shiftLeft_eq] at this
 rw[Nat.or_comm,<-this,Nat.add_comm]
theorem Oa (x r:Nat):IntKind.u64.wrap ((x:Int)*2^r)=((x*2^r%Bw:Nat):Int):=by
 have:((x:Int)*2^r)=((x*2^r:Nat):Int):=by simp
 rw[this]
 generalize x*2^r=a
 show ((a:Int)%18446744073709551616)=_
 rw[Mv];omega
theorem Mg {a b:Nat} (ha:a<Bw) (hb:b<Bw):bits .or .u64 (a:Int) (b:Int)=(a|||b:Int):=by
 have ha':a<2^64:=by rw[<-Bk];exact ha
 have hb':b<2^64:=by rw[<-Bk];exact hb
 have h:=Nat.or_lt_two_pow ha' hb'
 rw[<-Bk,Mv] at h
 have e:(BitVec.ofInt 64 (a:Int)|||BitVec.ofInt 64 (b:Int)).toNat=a|||b:=by
  rw[BitVec.toNat_or,BitVec.ofInt_natCast,BitVec.ofInt_natCast,BitVec.toNat_ofNat,BitVec.toNat_ofNat,Nat.mod_eq_of_lt ha',Nat.mod_eq_of_lt hb']
 show IntKind.u64.wrap ((BitVec.ofInt 64 (a:Int)|||BitVec.ofInt 64 (b:Int)).toNat:Int)=_
 rw[e]
 exact IntWalk.u64_in _ ω
structure Xv (x:List Nat) (w:World) (W r:Nat) (k:Nat) (ls:List Nat) (wr:World):Prop where
 buf:Oh w wr ls
 len:ls.length=x.length+W+1
 dig:Hp ls
 sum:lo ls (k+W)+Bw^(k+W)*dg ls (k+W)=lo x k*2^r*Bw^W
 carry:dg ls (k+W)<2^r
 zero:∀t,k+W<t->dg ls t=0
theorem AiC {L p c x s c' X r q v:Nat} (h:L+p*c=X*r*v) (hp:p=q*v) (he:c+x*r=s+Bw*c'):(L+p*s)+(p*Bw)*c'=(X+q*x)*r*v:=by
 subst hp;grind
theorem Pw (n i:Nat):dg (List.replicate n 0) i=0:=by
 rcases Nat.lt_or_ge i n with h|h
 rw[Tf (by simpa using h)];simp
 exact Mi (by simpa using h)
theorem Ac0 (n i:Nat):lo (List.replicate n 0) i=0:=by
 unfold lo
 rw[List.take_replicate]
 exact Pd.2 λx hx=>List.eq_of_mem_replicate hx
theorem Xv.start (x:List Nat) (w wr:World) (W r:Nat) (h:Oh w wr (List.replicate (x.length+W+1) 0)):Xv x w W r 0 (List.replicate (x.length+W+1) 0) wr:=
 ⟨h,by simp,Hp.zeros _,by rw[Ac0,Pw,Ml];simp,by rw[Pw];exact Nat.two_pow_pos r,λt _=>Pw _ _⟩
theorem Xv.step {x:List Nat} {w:World} {W r k:Nat} {ls l2:List Nat} {wr w2:World} (h:Xv x w W r k ls wr) (_:k<x.length) (hx:Hp x) (_:r<=64) (hb:Oh w w2 l2) (hlen:l2.length=ls.length)
  (hlo:lo l2 (k+W+1)=lo ls (k+W)+Bw^(k+W)*(dg ls (k+W)+dg x k*2^r%Bw)) (hc:dg l2 (k+W+1)=dg x k*2^r/Bw) (hz:∀t,k+W+1<t->dg l2 t=0) (hd:Hp l2):
  Xv x w W r (k+1) l2 w2:=by
 have e:k+1+W=k+W+1:=by omega
 refine⟨hb,by rw[hlen];exact h.len,hd,?_,?_,λt ht=>hz t ω⟩
 rw[e,hlo,hc,Ea,Nat.pow_succ]
 refine AiC h.sum (Nat.pow_add _ _ _) ?_
 have:=Nat.mod_add_div (dg x k*2^r) Bw
 omega
 rw[e,hc];exact tU (Hj hx k)
theorem Xv.fin {x:List Nat} {w:World} {W r:Nat} {ls:List Nat} {wr:World} (h:Xv x w W r x.length ls wr):val ls=val x*2^(64*W+r):=by
 have:=h.sum
 rw[<-Ea,Il (by rw[h.len];exact Nat.le_refl _),Il ζ,Rq] at this
 rw[this,Nat.pow_add,Nat.mul_assoc,Nat.mul_comm (2^r)]
theorem iI (n s:Nat) (v:Value) (l0 h0:Nat) (w:World) (h:Bf w l0 h0 v n) (hh:h0<=w.heap.size) (hl:(Ae n).length<=400000) (hs:s<=6400000):
  Calls Tryz.prog 116 #[v,.int .i64 (s:Int)] w (Ek w (n*2^s)):=by
 have hsv:=h.1
 obtain⟨A,c,rfl⟩:=hsv.slice
 have HS:=Δ hsv
 clear h hsv
 by_cases h0:n=0
 ·
  subst h0
  rw[Nat.zero_mul]
  rw[Cf] at*
  go_enter func116,ntmps116
  go_wp2_with fail
  go_ret
  exact⟨.slice none 0 0,rfl,⟨by rw[Cf];exact Gc.nil _ _,Nat.le_refl _⟩,Below.refl _ _⟩
 ·
  have hp:0<(Ae n).length:=List.length_pos_iff.2 λe=>h0 (Ky.1 e)
  obtain⟨W,hW⟩:∃W,W=s/64:=⟨_,rfl⟩
  obtain⟨r,hr⟩:∃r,r=s%64:=⟨_,rfl⟩
  have hq:(s:Int).tdiv 64=(W:Int):=by rw[hW];rfl
  have hm:(s:Int).tmod 64=(r:Int):=by rw[hr];rfl
  have hse:s=64*W+r:=by omega
  have hr64:r<64:=by omega
  have hWle:W<=100000:=by omega
  have HSE:=Δ hse
  clear hW hr hse h0
  have hmk:=Iz ((Ae n).length+W+1) ω w
  rw[show (((Ae n).length+W+1:Nat):Int)=((Ae n).length:Int)+(W:Int)+1 by omega] at hmk
  obtain⟨V,hV⟩:∃V,V=w.alloc (.cells (Ld (List.replicate ((Ae n).length+W+1) 0)) 92):=⟨_,rfl⟩
  rw[<-hV] at hmk
  have HJ0:=Δ (Xv.start (Ae n) w V W r (by rw[hV];exact Oh.start _ _))
  clear hV
  obtain⟨N,hN⟩:∃N,N=(Ae n).length:=⟨_,rfl⟩
  rw[<-hN] at hl hmk hp ⊢
  have HN:=Δ hN
  clear hN
  have hNb:((N:Int)==0)=false:=by rw[beq_eq_false_iff_ne];omega
  go_enter func116,ntmps116
  go_wp2_with (first|rw[hq]|rw[hm])
  go_loopw [8,9,25] (λ_ _ iv wr=>∃(k:Nat) (ls:List Nat),k<=N/\iv= .int .i64 (k:Nat)/\Hid (Xv (Ae n) w W r k ls wr)) (λ_ _ i _=>N-(intOf i).toNat)
  case atStart=>exact⟨0,_,Nat.zero_le _,rfl,HJ0⟩
  case round=>
   obtain⟨k,ls,hk,rfl,HJ⟩:=hrel
   clear HJ0 hmk
   by_cases hkN:k=N
   ·
    subst hkN
    have HFIN:Hid (Calls Tryz.prog 54 #[.slice (some ⟨w.heap.size,0,none⟩) (k+W+1) (k+W+1)] wr (Ek w (n*2^s))):=by
     have hJ:=HJ.out
     rw[HN.out] at hJ
     have hv:=hJ.fin
     rw[Bt,<-HSE.out] at hv
     exact hJ.buf.done hJ.dig (by rw[hJ.len,<-HN.out];omega) (by rw[hJ.len,<-HN.out]) hv
    go_wp2_with fail
    refine HFIN.out.mono ?_
    rintro e w' ⟨vr,rfl,hv,hb⟩
    go_wp2_with fail
    go_ret
    exact⟨vr,rfl,hv,hb⟩
   ·
    have hkn:k<N:=by omega
    have hki:(k:Int)<(N:Int):=by omega
    obtain⟨b,o,c1,e,_,hb1,hc⟩:=HS.out.pos (by have:=HN.out;omega)
    have hA:A=some ⟨b,o,none⟩:=by cases e;rfl
    subst hA
    clear e
    have g0:wr.cell? ⟨b,o+k,none⟩=some (.int .u64 (dg (Ae n) k:Int)):=(HJ.out.buf.below.cell (p:=⟨b,o+k,none⟩) (by show b<_;omega)).trans (hc _ _ (Ct _ _ (by have:=HN.out;omega)))
    clear hc
    have hlen:ls.length=N+W+1:=by rw[HN.out];exact HJ.out.len
    have gb:wr.cell? ⟨w.heap.size,k+W,none⟩=some (.int .u64 (dg ls (k+W):Int)):=HJ.out.buf.cell ω
    have gf:=HJ.out.buf.frozen (k+W)
    have hkw:(k:Int)+(W:Int)<(N:Int)+(W:Int)+1:=by omega
    clear hlen
    have HXB:Hid (dg (Ae n) k<Bw):=Hj (Cb n) k
    obtain⟨x,hx⟩:∃x,x=dg (Ae n) k:=⟨_,rfl⟩
    rw[<-hx] at g0 HXB
    have HX:=Δ hx
    clear hx
    have HD:=HJ.out.carry
    obtain⟨u,hu⟩:∃u,u=dg ls (k+W):=⟨_,rfl⟩
    rw[<-hu] at gb HD
    have HU:=Δ hu
    obtain⟨z,hz⟩:∃z,z=u+x*2^r%Bw:=⟨_,rfl⟩
    have HZB:Hid (z<Bw):=by unfold Hid;rw[hz];exact Ago ω HD
    have hOr:bits .or .u64 (u:Int) (IntKind.u64.wrap ((x:Int)*2^r))=(z:Int):=by
     rw[Oa,Mg (by have:=HZB.out;omega) (Nat.mod_lt _ Ec),hz,tV ω,Adf HD]
    have HZ:=Δ hz
    clear hz hu HD
    go_wp2_with fail
    go_region
    clear hOr gb gf
    obtain⟨w2,hw2⟩:∃w2,w2=(wr.setCell ⟨w.heap.size,k+W,none⟩ (.int .u64 (z:Int))).drew:=⟨_,rfl⟩
    rw[<-hw2]
    have HB2:Hid (Oh w w2 (ls.set (k+W) z)):=by unfold Hid;rw[hw2];exact(HJ.out.buf.set _ _).drew
    clear hw2
    have HLN:Hid (ls.length=N+W+1):=by unfold Hid;rw[HN.out];exact HJ.out.len
    have HLO:Hid (lo (ls.set (k+W) z) (k+W+1)=lo ls (k+W)+Bw^(k+W)*(dg ls (k+W)+x*2^r%Bw)):=by
     unfold Hid
     rw[Ea,Sd ζ,Mz (by have:=HLN.out;omega),HZ.out,HU.out]
    have HDG:Hid (dg (ls.set (k+W) z) (k+W+1)=0):=by
     unfold Hid
     rw[Hq ω];exact HJ.out.zero _ ω
    by_cases hr0:r=0
    ·
     subst hr0
     have HST:Hid (Xv (Ae n) w W 0 (k+1) (ls.set (k+W) z) w2):=by
      refine HJ.out.step (by have:=HN.out;omega) (Cb n) ω HB2.out (by simp) ?_ ?_ ?_ (HJ.out.dig.set HZB.out)
      · rw[<-HX.out];exact HLO.out
      · rw[HDG.out,<-HX.out,Nat.pow_zero,Nat.mul_one,Nat.div_eq_of_lt HXB.out]
      · intro t ht;rw[Hq ω];exact HJ.out.zero _ ω
     go_wp2_with fail
     exact⟨⟨k+1,_,ω,rfl,HST⟩,by simp only[intOf];omega⟩
    ·
     have hr0i:(0:Int)<(r:Int):=by omega
     obtain⟨y,hy⟩:∃y,y=x*2^r/Bw:=⟨_,rfl⟩
     have hsh:(x:Int)/2^(64-r)=(y:Int):=by rw[hy,<-mA ω];simp
     have HYB:Hid (y<Bw):=by
      unfold Hid;rw[hy]
      have:=tU (x:=x) (r:=r) HXB.out
      have h2:2^r<=2^64:=Nat.pow_le_pow_right δ ω
      rw[<-Bk] at h2
      omega
     have HST:Hid (Xv (Ae n) w W r (k+1) ((ls.set (k+W) z).set (k+W+1) y) (w2.setCell ⟨w.heap.size,k+W+1,none⟩ (.int .u64 (y:Int)))):=by
      refine HJ.out.step (by have:=HN.out;omega) (Cb n) ω (HB2.out.set _ _) (by simp) ?_ ?_ ?_ ((HJ.out.dig.set HZB.out).set HYB.out)
      · rw[<-HX.out,Sd ζ];exact HLO.out
      · rw[Mz (by rw[List.length_set];have:=HLN.out;omega),<-HX.out];exact hy
      · intro t ht;rw[Hq ω,Hq ω];exact HJ.out.zero _ ω
     clear hy
     have gb2:w2.cell? ⟨w.heap.size,k+W+1,none⟩=some (.int .u64 (dg (ls.set (k+W) z) (k+W+1):Int)):=HB2.out.cell (by rw[List.length_set];have:=HLN.out;omega)
     have gf2:=HB2.out.frozen (k+W+1)
     generalize dg (ls.set (k+W) z) (k+W+1)=u2 at*
     go_wp2_with fail
     exact⟨⟨k+1,_,ω,rfl,HST⟩,by simp only[intOf];omega⟩
def Aq (w:World) (b:Nat) (ls:List Nat):Prop:=∃cur t,w.heap[b]?=some (.cells cur t (0,0))/\∀i,i<ls.length->cur[i]?=some (.int .u64 (dg ls i:Int))
theorem Aq.lt {w:World} {b:Nat} {ls:List Nat} (h:Aq w b ls):b<w.heap.size:=by
 obtain⟨cur,t,hr,_⟩:=h
 exact(Ξ hr).1
theorem Aq.cell {w:World} {b:Nat} {ls:List Nat} (h:Aq w b ls) {i:Nat} (hi:i<ls.length):w.cell? ⟨b,i,none⟩=some (.int .u64 (dg ls i:Int)):=by
 obtain⟨cur,t,hr,hc⟩:=h
 rw[<-hc i hi];simp[World.cell?,hr]
theorem Aq.frozen {w:World} {b:Nat} {ls:List Nat} (h:Aq w b ls) (i:Nat):w.frozen? ⟨b,i,none⟩=false:=by
 obtain⟨cur,t,hr,hc⟩:=h
 simp[World.frozen?,hr]
theorem Aq.same {w w':World} {b:Nat} {ls:List Nat} (h:Aq w b ls) (e:w'.heap[b]?=w.heap[b]?):Aq w' b ls:=by
 obtain⟨cur,t,hr,hc⟩:=h
 exact⟨cur,t,e.trans hr,hc⟩
theorem Aq.below {w w':World} {b B:Nat} {ls:List Nat} (h:Aq w b ls) (hb:Below B w w') (hl:b<B):Aq w' b ls:=h.same (hb.block b hl)
theorem Aq.drew {w:World} {b:Nat} {ls:List Nat} (h:Aq w b ls):Aq w.drew b ls:=h
theorem Yn (w:World):∀q,(w.drewN q).heap=w.heap
 |0=>rfl
 |q+1=>(show (w.drewN q).drew.heap=w.heap from Yn w q)
theorem Aq.drewN {w:World} {b:Nat} {ls:List Nat} (h:Aq w b ls) (q:Nat):Aq (w.drewN q) b ls:=h.same (by rw[Yn])
theorem Ke {B:Nat} {a w:World} (h:Below B a w):∀q,Below B a (w.drewN q)
 |0=>h
 |q+1=>(Ke h q).drew
theorem Aq.set {w:World} {b:Nat} {ls:List Nat} (h:Aq w b ls) (i x:Nat):Aq (w.setCell ⟨b,i,none⟩ (.int .u64 (x:Int))) b (ls.set i x):=by
 obtain⟨cur,t,hr,hc⟩:=h
 refine⟨cur.setIfInBounds i (.int .u64 (x:Int)),t,by simp[World.setCell,Array.getElem?_modify,hr],λj hj=>?_⟩
 rw[List.length_set] at hj
 have:=hc j hj
 rw[Array.getElem?_setIfInBounds]
 by_cases e:i=j
 subst e
 rw[if_pos rfl,if_pos (Ξ this).1,Mz hj]
 rw[if_neg e,Hq (Ne.symm e)];exact this
theorem Aq.other {w:World} {b:Nat} {ls:List Nat} (h:Aq w b ls) (p:Addr) (u:Value) (hp:b≠p.block):Aq (w.setCell p u) b ls:=h.same (Below.heap_setCell w p u b hp)
theorem Aq.alloc {w:World} {b:Nat} {ls:List Nat} (h:Aq w b ls) (o:Obj):Aq (w.alloc o) b ls:=h.same (Below.heap_alloc w o b h.lt)
theorem Aq.made (w:World) (ls:List Nat) (t:TypeId):Aq (w.alloc (.cells (Ld ls) t)) w.heap.size ls:=
 ⟨Ld ls,t,by show (w.heap.push _)[w.heap.size]?=_;simp,λi hi=>Xc ls i hi⟩
theorem Aq.sees {w:World} {b:Nat} {ls:List Nat} (h:Aq w b ls) {j n c lo hi:Nat} (hn:j+n<=ls.length) (hlo:lo<=b) (hhi:b<hi):Hc w lo hi 1 (.slice (some ⟨b,j,none⟩) n c) n (Gw ((ls.drop j).take n)):=by
 have hl:((ls.drop j).take n).length=n:=by rw[List.length_take,List.length_drop];omega
 refine⟨by rw[Cd];omega,.inr ⟨b,j,c,rfl,⟨hlo,hhi⟩,λi u hu=>?_⟩⟩
 have hi:=(List.getElem?_eq_some_iff.1 hu).1
 rw[Cd,hl] at hi
 rw[h.cell (by omega:j+i<ls.length)]
 rw[Ct _ i ω] at hu
 rw[<-hu]
 simp[dg,hi]
theorem Aq.setCells {b:Nat} (xs:List Nat):∀{w:World} {ls:List Nat} {j:Nat},Aq w b ls->j+xs.length<=ls.length->Aq (w.setCells b j (Gw xs)) b (put ls j xs):=by
 induction xs with
 |nil=>
  intro w ls j h _
  have:put ls j []=ls:=by simp[put]
  rw[this];exact h
 |cons x xs ih=>
  intro w ls j h hl
  simp only[List.length_cons] at hl
  have h2:=ih (j:=j+1) (h.set j x) (by rw[List.length_set];omega)
  have e:put ls j (x::xs)=put (ls.set j x) (j+1) xs:=by
   unfold put
   rw[List.take_add_one,List.take_set_of_le ζ,List.getElem?_set_self ω,List.drop_set_of_lt ω]
   simp[Nat.add_assoc,Nat.add_comm 1]
  rw[e]
  exact h2
theorem Hi {B:Nat} {b:Nat} (hb:B<=b) (xs:List Value):∀{a w:World} (j:Nat),Below B a w->Below B a (w.setCells b j xs):=by
 induction xs with
 |nil=>intro a w j h;exact h
 |cons x xs ih=>intro a w j h;exact ih (j+1) (h.setCell (p:=⟨b,j,none⟩) hb x)
theorem Es {b k:Nat} (hk:k≠b) (xs:List Value):∀(w:World) (j:Nat),(w.setCells b j xs).heap[k]?=w.heap[k]?:=by
 induction xs with
 |nil=>intro w j;rfl
 |cons x xs ih=>intro w j;rw[World.setCells,ih];exact Below.heap_setCell w ⟨b,j,none⟩ x k hk
theorem Ie (b:Nat) (xs:List Value):∀(w:World) (j:Nat),(w.setCells b j xs).heap.size=w.heap.size:=by
 induction xs with
 |nil=>intro w j;rfl
 |cons x xs ih=>intro w j;rw[World.setCells,ih];simp[World.setCell]
theorem Aq.otherCells {b b':Nat} (hb:b≠b') (xs:List Value):∀{w:World} {ls:List Nat} (j:Nat),Aq w b ls->Aq (w.setCells b' j xs) b ls:=by
 induction xs with
 |nil=>intro w ls j h;exact h
 |cons x xs ih=>intro w ls j h;exact ih (j+1) (h.other ⟨b',j,none⟩ x hb)
theorem mN (l:List Nat):∀u∈Gw l,u.oneCell'=true:=by
 intro u hu
 unfold Gw at hu
 obtain⟨n,_,rfl⟩:=List.mem_map.1 hu
 rfl
theorem Aq.own {w:World} {base n:Nat} {e:TypeId} {v:Value} {ls:List Nat} (hn:ls.length=n) (h:w.ownsRow base e 1 v n (Gw ls)) (h0:0<n):∃b c,v= .slice (some ⟨b,0,none⟩) n c/\base<=b/\n<=c/\Aq w b ls:=by
 rcases h.2 with⟨_,h1⟩|⟨g,cap,cur,rfl,hb,hg,hnc,_,_,htk⟩
 omega
 refine⟨g,cap,rfl,hb,hnc,cur,e,hg,λi hi=>?_⟩
 rw[<-Array.getElem?_toList,<-Ct ls i hi,<-htk,List.getElem?_take,if_pos ω]
theorem Aq.done {w wr:World} {b:Nat} {ls:List Nat} (h:Aq wr b ls) (hB:w.heap.size<=b) (hw:Below w.heap.size w wr) (hd:Hp ls) (hl:ls.length<=1000000) {n c:Nat} (hn:ls.length=n) (hc:n<=c) {m:Nat} (hm:val ls=m):
  Calls Tryz.prog 54 #[.slice (some ⟨b,0,none⟩) n c] wr (Ek w m):=by
 subst hn hm
 have hs:=h.sees (j:=0) (n:=ls.length) (c:=c) (lo:=w.heap.size) (hi:=wr.heap.size) ω hB h.lt
 rw[List.drop_zero,List.take_length] at hs
 refine(Qp ls _ _ _ wr hs hc hd hl).mono ?_
 rintro e w' ⟨v',rfl,hv,rfl⟩
 exact⟨v',rfl,hv,hw⟩
theorem fD (ls:List Nat) (v:Value) (l0 h0:Nat) (w:World) (h:Hc w l0 h0 1 v ls.length (Gw ls)) (hh:h0<=w.heap.size) (hl:0<ls.length) (hm:ls.length<=1000000):
  Calls Tryz.prog 205 #[v] w λe w'=>∃b c,e= .returned (.slice (some ⟨b,0,none⟩) ls.length c)/\w.heap.size<=b/\ls.length<=c/\Aq w' b ls/\Below w.heap.size w w':=by
 obtain⟨i0,hi0,hz0,hz1,hz2⟩:=info_parts aP
 obtain⟨b,o,c,rfl,_,hb,hc⟩:=h.pos hl
 have hnil:=λW=>Lib.run_eql_slice_nil (P:=Tryz.prog) W 95 92 (some ⟨b,o,none⟩) ls.length c 0 0 underlying95
 clear hc
 go_enter func205,ntmps205
 have hown:=AfT w [] 0 w.heap.size 1 92 rfl rfl δ
 have hs1:=(h.more ζ hh).up ((Below.refl w.heap.size w).alloc ζ (.cells #[] 92))
 go_wp2_with (at_builtin;refine Sm rfl (.tmp 5) (.tmp 6) 95 rfl w.heap.size 92 i0 _ 1 8 underlying95 hi0 hz0 hz1 hz2 rfl δ _ _ _ rfl hown _ _ _ _ rfl hs1 (mN ls) ?_ ?_ ?_ ?_)
 · unfold maxLen;omega
 · omega
 · simp
 intro v' w1 hown1 hg1 hat1
 go_wp2
 go_ret
 obtain⟨b',c',rfl,hb',hc',hr⟩:=Aq.own rfl hown1 hl
 refine⟨b',c',rfl,hb',hc',hr,(Ψ.alloc ζ _).grown hg1 (by simp) ?_⟩
 rintro j hj
 simp[Value.ownBlock] at hj
 omega
theorem xC {x y o c:Nat} (hx:x<Bw) (hy:y<Bw) (ho:o<Bw) (hc:c<Bw):∃h l c1 l1 c2 l2 c',h=x*y/Bw/\l=x*y%Bw/\c1=(l+o+0)/Bw/\l1=(l+o+0)%Bw/\c2=(l1+c+0)/Bw/\l2=(l1+c+0)%Bw/\
  h+c1<Bw/\h+c1+c2=c'/\c'<Bw/\l2<Bw/\x*y+o+c=l2+Bw*c':=by
 refine⟨_,_,_,_,_,_,_,rfl,rfl,rfl,rfl,rfl,rfl,?_,rfl,?_,Nat.mod_lt _ Ec,?_⟩
 all_goals
  have e1:=Nat.mod_add_div (x*y) Bw
  have e2:=Nat.mod_add_div (x*y%Bw+o+0) Bw
  have e3:=Nat.mod_add_div ((x*y%Bw+o+0)%Bw+c+0) Bw
  have e4:=AfD hx hy ho hc
  have e5:(((x*y%Bw+o+0)%Bw+c+0)%Bw)<Bw:=Nat.mod_lt _ Ec
  generalize x*y/Bw=h at*
  generalize hl:x*y%Bw=l at*
  generalize (l+o+0)/Bw=c1 at*
  generalize (l+o+0)%Bw=l1 at*
  generalize (l1+c+0)/Bw=c2 at*
  generalize (l1+c+0)%Bw=l2 at*
  have e6:x*y+o+c=l2+Bw*(h+c1+c2):=by rw[Nat.mul_add,Nat.mul_add];omega
 · rw[e6,Nat.add_mul_div_left _ _ Ec,Nat.div_eq_of_lt e5] at e4;omega
 · rw[e6,Nat.add_mul_div_left _ _ Ec,Nat.div_eq_of_lt e5] at e4;omega
 · exact e6
theorem Ex {a b c:Nat} (h:a+b=c) (hc:c<Bw):IntKind.u64.wrap ((a:Int)+(b:Int))=(c:Int):=by
 have:((a:Int)+(b:Int))=(c:Int):=by omega
 rw[this]
 unfold Bw at hc
 exact IntWalk.u64_in _ ω
structure eX (x y:List Nat) (w:World) (i:Nat) (ls:List Nat) (wr:World):Prop where
 buf:Oh w wr ls
 len:ls.length=x.length+y.length
 dig:Hp ls
 sum:lo ls (i+y.length)=lo x i*val y
structure jL (x y:List Nat) (w:World) (i:Nat) (L0:List Nat) (j c:Nat) (ls:List Nat) (wr:World):Prop where
 buf:Oh w wr ls
 len:ls.length=x.length+y.length
 dig:Hp ls
 carry:c<Bw
 sum:lo ls (i+j)+Bw^(i+j)*c=lo L0 (i+j)+Bw^i*(dg x i*lo y j)
 same:∀t,i+j<=t->dg ls t=dg L0 t
theorem eX.inner {x y:List Nat} {w:World} {i:Nat} {ls:List Nat} {wr:World} (h:eX x y w i ls wr):jL x y w i ls 0 0 ls wr:=
 ⟨h.buf,h.len,h.dig,Ec,by simp[Ml],λ_ _=>rfl⟩
theorem jL.step {x y:List Nat} {w:World} {i j c:Nat} {L0 ls:List Nat} {wr:World} (h:jL x y w i L0 j c ls wr) (hi:i<x.length) (hj:j<y.length) {s c':Nat} (hs:s<Bw) (hc:c'<Bw) (he:dg x i*dg y j+dg ls (i+j)+c=s+Bw*c'):
  jL x y w i L0 (j+1) c' (ls.set (i+j) s) (wr.setCell ⟨w.heap.size,i+j,none⟩ (.int .u64 (s:Int))):=by
 refine⟨h.buf.set _ _,by rw[List.length_set];exact h.len,h.dig.set hs,hc,?_,λt ht=>?_⟩
 rw[<-Nat.add_assoc,Ea,Ea L0,Ea y,Sd ζ,Mz (by have:=h.len;omega),Nat.pow_succ]
 rw[h.same _ ζ] at he
 exact AcA (Nat.pow_add _ _ _) h.sum he
 rw[Hq ω];exact h.same t ω
theorem jL.fin {x y:List Nat} {w:World} {i c:Nat} {L0 ls:List Nat} {wr w0:World} (h:jL x y w i L0 y.length c ls wr) (h0:eX x y w i L0 w0) (hi:i<x.length):
  eX x y w (i+1) (ls.set (i+y.length) c) (wr.setCell ⟨w.heap.size,i+y.length,none⟩ (.int .u64 (c:Int))):=by
 refine⟨h.buf.set _ _,by rw[List.length_set];exact h.len,h.dig.set h.carry,?_⟩
 rw[show i+1+y.length=i+y.length+1 by omega,Ea,Sd ζ,Mz (by have:=h.len;omega),h.sum,h0.sum,Il (l:=y) ζ,Ea,Nat.add_mul,Nat.mul_assoc]
theorem eX.fin {x y:List Nat} {w:World} {ls:List Nat} {wr:World} (h:eX x y w x.length ls wr):val ls=val x*val y:=by
 have:=h.sum
 rw[Il (by rw[h.len];exact Nat.le_refl _),Il ζ] at this
 exact this
theorem xB (x y:Nat) (hx:x<Bw) (hy:y<Bw) (w:World):Calls Tryz.prog 204 #[.int .u64 (x:Int),.int .u64 (y:Int)] w λe w'=>e= .returned (.tuple #[.int .u64 ((x*y/Bw:Nat):Int),.int .u64 ((x*y%Bw:Nat):Int)])/\w=w':=
 (_root_.Go.Proofs.Tryz.bits_Mul64 x y hx hy w).mono λ_ _ ⟨he,hw⟩=>⟨he,hw.symm⟩
theorem gH (n m:Nat) (v v':Value) (l0 h0 l1 h1:Nat) (w:World) (h:Bf w l0 h0 v n) (h':Bf w l1 h1 v' m) (hh:h0<=w.heap.size) (hh':h1<=w.heap.size) (hl:(Ae n).length<=400000) (hl':(Ae m).length<=400000):
  Calls Tryz.prog 182 #[v,v'] w (Ek w (n*m)):=by
 have hs:=h.1
 have hs':=h'.1
 obtain⟨A,c,rfl⟩:=hs.slice
 obtain⟨A',c',rfl⟩:=hs'.slice
 have HS:=Δ hs
 have HS':=Δ hs'
 clear h h' hs hs'
 have hmk:=Iz ((Ae n).length+(Ae m).length) ω w
 rw[show (((Ae n).length+(Ae m).length:Nat):Int)=((Ae n).length:Int)+((Ae m).length:Int) by omega] at hmk
 obtain⟨W,hW⟩:∃W,W=w.alloc (.cells (Ld (List.replicate ((Ae n).length+(Ae m).length) 0)) 92):=⟨_,rfl⟩
 rw[<-hW] at hmk
 have J0:eX (Ae n) (Ae m) w 0 (List.replicate ((Ae n).length+(Ae m).length) 0) W:=by
  refine⟨by rw[hW];exact Oh.start _ _,by simp,Hp.zeros _,?_⟩
  rw[Ml,Nat.zero_mul]
  unfold lo
  rw[List.take_replicate]
  exact Pd.2 λx hx=>List.eq_of_mem_replicate hx
 have HJ0:=Δ J0
 clear J0 hW
 obtain⟨N,hN⟩:∃N,N=(Ae n).length:=⟨_,rfl⟩
 obtain⟨M,hM⟩:∃M,M=(Ae m).length:=⟨_,rfl⟩
 rw[<-hN] at hl
 rw[<-hM] at hl'
 rw[<-hN,<-hM] at hmk ⊢
 have HN:=Δ hN
 have HM:=Δ hM
 clear hN hM
 go_enter func182,ntmps182
 go_wp2_with fail
 go_loopw [6,7,8,9,10,11,12,13,22] (λ_ _ _ _ _ _ _ _ iv wr=>∃(i:Nat) (ls:List Nat),i<=N/\iv= .int .i64 (i:Nat)/\Hid (eX (Ae n) (Ae m) w i ls wr)) (λ_ _ _ _ _ _ _ _ i _=>N-(intOf i).toNat)
 case atStart=>exact⟨0,_,Nat.zero_le _,rfl,HJ0⟩
 case round=>
  obtain⟨i,L0,hi,rfl,HO⟩:=hrel
  clear HJ0 hmk
  by_cases hiN:i=N
  ·
   subst hiN
   have HFIN:Hid (Calls Tryz.prog 54 #[.slice (some ⟨w.heap.size,0,none⟩) (i+M) (i+M)] wr (Ek w (n*m))):=by
    have hJ:=HO.out
    rw[HN.out] at hJ
    have hv:=hJ.fin
    rw[Bt,Bt] at hv
    exact hJ.buf.done hJ.dig (by rw[hJ.len,<-HN.out,<-HM.out];omega) (by rw[hJ.len,<-HN.out,<-HM.out]) hv
   go_wp2_with fail
   refine HFIN.out.mono ?_
   rintro e w' ⟨vr,rfl,hv,hb⟩
   go_wp2_with fail
   go_ret
   exact⟨vr,rfl,hv,hb⟩
  ·
   have hin:i<N:=by omega
   have hii:(i:Int)<(N:Int):=by omega
   obtain⟨b,o,c1,e,_,hb1,hc⟩:=HS.out.pos (by have:=HN.out;omega)
   have hA:A=some ⟨b,o,none⟩:=by cases e;rfl
   subst hA
   clear e
   have g0:wr.cell? ⟨b,o+i,none⟩=some (.int .u64 (dg (Ae n) i:Int)):=(HO.out.buf.below.cell (p:=⟨b,o+i,none⟩) (by show b<_;omega)).trans (hc _ _ (Ct _ _ (by have:=HN.out;omega)))
   clear hc
   have HXB:Hid (dg (Ae n) i<Bw):=Hj (Cb n) i
   obtain⟨x,hx⟩:∃x,x=dg (Ae n) i:=⟨_,rfl⟩
   rw[<-hx] at g0 HXB
   have HX:=Δ hx
   clear hx
   go_wp2_with fail
   go_loopw [8,9,10,11,12,13,29] (λcv _ _ _ _ _ jv wq=>∃(j cc:Nat) (ls:List Nat),j<=M/\jv= .int .i64 (j:Nat)/\cv= .int .u64 (cc:Int)/\Hid (jL (Ae n) (Ae m) w i L0 j cc ls wq)) (λ_ _ _ _ _ _ j _=>M-(intOf j).toNat)
   case atStart=>exact⟨0,0,L0,Nat.zero_le _,rfl,rfl,HO.out.inner⟩
   case round=>
    obtain⟨j,cc,ls,hj,rfl,rfl,HJ⟩:=hrel
    clear g0
    have hlen:ls.length=N+M:=by rw[HN.out,HM.out];exact HJ.out.len
    by_cases hjM:j=M
    ·
     subst hjM
     have gb:wr.cell? ⟨w.heap.size,i+j,none⟩=some (.int .u64 (dg ls (i+j):Int)):=HJ.out.buf.cell ω
     have gf:=HJ.out.buf.frozen (i+j)
     have HNEXT:Hid (eX (Ae n) (Ae m) w (i+1) (ls.set (i+j) cc) (wr.setCell ⟨w.heap.size,i+j,none⟩ (.int .u64 (cc:Int)))):=by
      have h1:=HJ.out
      rw[HM.out] at h1 ⊢
      exact h1.fin HO.out (by rw[<-HN.out];omega)
     have hij:(i:Int)+(j:Int)<(N:Int)+(j:Int):=by omega
     clear hlen
     go_wp2_with fail
     exact⟨⟨i+1,_,ω,rfl,HNEXT⟩,by simp only[intOf];omega⟩
    ·
     have hjm:j<M:=by omega
     have hji:(j:Int)<(M:Int):=by omega
     obtain⟨b',o',c1',e,_,hb1',hc'⟩:=HS'.out.pos (by have:=HM.out;omega)
     have hA':A'=some ⟨b',o',none⟩:=by cases e;rfl
     subst hA'
     clear e
     have g1:wr.cell? ⟨b',o'+j,none⟩=some (.int .u64 (dg (Ae m) j:Int)):=(HJ.out.buf.below.cell (p:=⟨b',o'+j,none⟩) (by show b'<_;omega)).trans (hc' _ _ (Ct _ _ (by have:=HM.out;omega)))
     clear hc'
     have gb:wr.cell? ⟨w.heap.size,i+j,none⟩=some (.int .u64 (dg ls (i+j):Int)):=HJ.out.buf.cell ω
     have gf:=HJ.out.buf.frozen (i+j)
     have hij:(i:Int)+(j:Int)<(N:Int)+(M:Int):=by omega
     clear hlen
     have HYB:Hid (dg (Ae m) j<Bw):=Hj (Cb m) j
     have HOB:Hid (dg ls (i+j)<Bw):=Hj HJ.out.dig (i+j)
     obtain⟨h,l,c1,x1,c2,x2,q,e1,e2,e3,e4,e5,e6,e7,e8,e9,e10,e11⟩:=xC HXB.out HYB.out HOB.out HJ.out.carry
     have HST:Hid (jL (Ae n) (Ae m) w i L0 (j+1) q (ls.set (i+j) x2) (wr.setCell ⟨w.heap.size,i+j,none⟩ (.int .u64 (x2:Int)))):=by
      refine HJ.out.step (by have:=HN.out;omega) (by have:=HM.out;omega) e10 e9 ?_
      rw[<-HX.out];exact e11
     have HMUL:=xB x (dg (Ae m) j) HXB.out HYB.out wr
     have hA1:(callFunc 183 #[.int .u64 (l:Int),.int .u64 (dg ls (i+j):Int),.int .u64 0]).run Tryz.prog wr= .ok (.value (.tuple #[.int .u64 (x1:Int),.int .u64 (c1:Int)])) wr:=by
      rw[e3,e4];exact Qv l (dg ls (i+j)) 0 ω wr
     have hA2:(callFunc 183 #[.int .u64 (x1:Int),.int .u64 (cc:Int),.int .u64 0]).run Tryz.prog wr= .ok (.value (.tuple #[.int .u64 (x2:Int),.int .u64 (c2:Int)])) wr:=by
      rw[e5,e6];exact Qv x1 cc 0 ω wr
     obtain⟨h2,hh2⟩:∃h2,h2=h+c1:=⟨_,rfl⟩
     have hW1:IntKind.u64.wrap ((h:Int)+(c1:Int))=(h2:Int):=Ex hh2.symm ω
     have hW2:IntKind.u64.wrap ((h2:Int)+(c2:Int))=(q:Int):=Ex ω e9
     rw[<-e1,<-e2] at HMUL
     have HMUL:=Δ HMUL
     clear e1 e2 e3 e4 e5 e6 e7 e8 e9 e10 e11 hh2
     generalize dg (Ae m) j=y at*
     generalize dg ls (i+j)=u at*
     go_wp2_with fail
     refine HMUL.out.mono ?_
     rintro e w' ⟨rfl,rfl⟩
     go_wp2_with (first|rw[hA1]|rw[hA2]|rw[hW1]|rw[hW2])
     exact⟨⟨j+1,_,_,ω,rfl,rfl,HST⟩,by simp only[intOf];omega⟩
theorem Fy {a:Nat} (h:a<Bw):IntKind.u64.wrap (a:Int)=(a:Int):=by
 unfold Bw at h;exact IntWalk.u64_in _ ω
theorem Dl {a b c:Nat} (h:a*b=c) (hc:c<Bw):IntKind.u64.wrap ((a:Int)*(b:Int))=(c:Int):=by
 rw[<-h] at hc ⊢
 rw[show ((a:Int)*(b:Int))=((a*b:Nat):Int) by simp]
 exact Fy hc
theorem Lj {a:Nat} (h:a<Bw) (h0:0<a):IntKind.u64.wrap ((a:Int)-1)=((a-1:Nat):Int):=by
 rw[show ((a:Int)-1)=((a-1:Nat):Int) by omega];exact Fy ω
theorem Tb {a:Nat} (ha:a<Bw):bits .and .u64 (a:Int) 4294967295=((a%Bh:Nat):Int):=by
 have ha':a<2^64:=by rw[<-Bk];exact ha
 have hB:Bh=4294967296:=rfl
 have e:(BitVec.ofInt 64 (a:Int)&&& BitVec.ofInt 64 (4294967295:Int)).toNat=a%Bh:=by
  rw[BitVec.toNat_and,BitVec.ofInt_natCast,BitVec.toNat_ofNat,Nat.mod_eq_of_lt ha']
  have:(BitVec.ofInt 64 (4294967295:Int)).toNat=2^32-1:=by decide
  rw[this,Nat.and_two_pow_sub_one_eq_mod,nU]
 show IntKind.u64.wrap ((BitVec.ofInt 64 (a:Int)&&& BitVec.ofInt 64 (4294967295:Int)).toNat:Int)=_
 rw[e]
 refine Fy ?_
 have:=Nat.mod_lt a (show 0<Bh by decide)
 have hq:Bw=18446744073709551616:=rfl
 omega
theorem jU {a b s:Nat} (hb:b<2^s) {u:Nat} (hu:u=a*2^s+b) (hl:u<Bw):bits .or .u64 ((a*2^s:Nat):Int) (b:Int)=(u:Int):=by
 rw[Mg ω ω,Nat.or_comm,Adf hb,hu,Nat.add_comm]
theorem aX {a b c e f g z:Nat} (h1:a*Bh=e) (h2:b*c=f) (h3:e+g=f+z) (hz:z<Bw):
  IntKind.u64.wrap (IntKind.u64.wrap (IntKind.u64.wrap ((a:Int)*4294967296)+(g:Int))-IntKind.u64.wrap ((b:Int)*(c:Int)))=(z:Int):=by
 rw[show ((a:Int)*4294967296)=(e:Int) by rw[<-h1];simp[Bh],show ((b:Int)*(c:Int))=(f:Int) by rw[<-h2];simp]
 unfold Bw at hz
 show (((((e:Int)%18446744073709551616)+(g:Int))%18446744073709551616)-((f:Int)%18446744073709551616))%18446744073709551616=(z:Int)
 omega
theorem Kw {hi lo y s Y d1 d0 u t x1 x0 qq v q A B:Nat} (HP:Hid (Sz hi lo y s Y d1 d0 u t x1 x0)) (HV:Hid (v=u*Bh+x1-qq*Y)) (HQ1:Hid (qq=(u*Bh+x1)/(d1*Bh+d0))) (HQ:Hid (q=(v*Bh+x0)/(d1*Bh+d0))) (HH:Hid (hi<y)) (HLO:Hid (lo<Bw)) (HA:Hid (A=(hi*Bw+lo)/y)) (HBB:Hid (B=(hi*Bw+lo)%y)):
  ∃z S:Nat,IntKind.u64.wrap (IntKind.u64.wrap (IntKind.u64.wrap ((v:Int)*4294967296)+(x0:Int))-IntKind.u64.wrap ((q:Int)*(Y:Int)))=(z:Int)/\(z:Int)/2^s=(B:Int)/\IntKind.u64.wrap (IntKind.u64.wrap ((qq:Int)*4294967296)+(q:Int))=(S:Int)/\(qq:Int)*4294967296+(q:Int)=(S:Int)/\IntKind.u64.wrap ((qq:Int)*4294967296+(q:Int))=(S:Int)/\IntKind.u64.wrap (S:Int)=(S:Int)/\Hid (A=S):=by
 have HE:=Δ (bD HP.out HV.out (by rw[HQ1.out,HP.out.Yd]) (show q=(v*Bh+x0)/Y by rw[HQ.out,HP.out.Yd]))
 have HYP:Hid (0<Y):=by unfold Hid;have:=HP.out.uY;omega
 obtain⟨z,HZ⟩:∃z,Hid (z=v*Bh+x0-q*Y):=⟨_,rfl⟩
 have hZl:z<Bw:=by
  rw[HZ.out,HQ.out,HP.out.Yd]
  exact Nat.lt_trans (Adz HYP.out) HP.out.Yl
 obtain⟨S,HS⟩:∃S,Hid (S=qq*Bh+q):=⟨_,rfl⟩
 have hSl:S<Bw:=by rw[HS.out,<-HE.out.1];exact Uq HH.out HLO.out
 have hSw3:(qq:Int)*4294967296+(q:Int)=(S:Int):=by rw[HS.out];simp[Bh]
 refine⟨z,S,?_,?_,?_,hSw3,by rw[hSw3];exact Fy hSl,Fy hSl,?_⟩
 refine aX rfl rfl ?_ hZl
 rw[HZ.out]
 have:q*Y<=v*Bh+x0:=by rw[HQ.out,HP.out.Yd];exact Nat.div_mul_le_self _ _
 omega
 rw[HBB.out,HE.out.2,<-HZ.out];simp
 have:=Dl (a:=qq) (b:=Bh) rfl (by have:=HS.out;omega)
 have h2:(Bh:Int)=4294967296:=rfl
 rw[h2] at this
 rw[this]
 exact Ex HS.out.symm hSl
 unfold Hid;rw[HA.out,HE.out.1,<-HS.out]
theorem fJ {hi lo y s Y d1 d0 u t x1 x0 qq:Nat} (HP:Hid (Sz hi lo y s Y d1 d0 u t x1 x0)) (HQ1:Hid (qq=(u*Bh+x1)/(d1*Bh+d0))):
  ∃v q2 r2 m2:Nat,Hid (v=u*Bh+x1-qq*Y)/\IntKind.u64.wrap (IntKind.u64.wrap (IntKind.u64.wrap ((u:Int)*4294967296)+(x1:Int))-IntKind.u64.wrap ((qq:Int)*(Y:Int)))=(v:Int)/\IntKind.u64.wrap ((v:Int)/(d1:Int))=(q2:Int)/\IntKind.u64.wrap ((q2:Int)*(d1:Int))=(m2:Int)/\IntKind.u64.wrap ((v:Int)-(m2:Int))=(r2:Int)/\Hid (Fr d1 d0 v x0 q2 r2)/\Hid (v<Y):=by
 have HYP:Hid (0<Y):=by unfold Hid;have:=HP.out.uY;omega
 obtain⟨v,HV⟩:∃v,Hid (v=u*Bh+x1-qq*Y):=⟨_,rfl⟩
 have hvY:v<Y:=by
  rw[HV.out,HQ1.out,HP.out.Yd]
  exact Adz HYP.out
 have hvl:=Nat.lt_trans hvY HP.out.Yl
 obtain⟨q2,hq⟩:∃q,q=v/d1:=⟨_,rfl⟩
 obtain⟨r2,hr⟩:∃r,r=v%d1:=⟨_,rfl⟩
 have hqr:=Nat.mod_add_div v d1
 rw[<-hq,<-hr] at hqr
 have hql:q2<Bw:=by rw[hq];exact Nat.lt_of_le_of_lt (Nat.div_le_self _ _) hvl
 obtain⟨m2,hm⟩:∃m,m=q2*d1:=⟨_,rfl⟩
 rw[Nat.mul_comm d1,<-hm] at hqr
 refine⟨v,q2,r2,m2,HV,?_,?_,Dl hm.symm ω,?_,?_,hvY⟩
 refine aX rfl rfl ?_ hvl
 rw[HV.out]
 have:qq*Y<=u*Bh+x1:=by rw[HQ1.out,HP.out.Yd];exact Nat.div_mul_le_self _ _
 omega
 rw[show (v:Int)/(d1:Int)=(q2:Int) by rw[hq];rfl];exact Fy hql
 rw[show (v:Int)-(m2:Int)=(r2:Int) by omega];exact Fy ω
 unfold Hid;rw[hq,hr];exact Fr.start HP.out.d1b HP.out.d1l HP.out.d0l HP.out.x0l (by rw[HP.out.Yd];exact hvY)
theorem cZ (hi lo y:Nat) (h1:hi<y) (hy:y<Bw) (hl:lo<Bw) (w:World):
  Calls Tryz.prog 186 #[.int .u64 (hi:Int),.int .u64 (lo:Int),.int .u64 (y:Int)] w λe w'=>
   e= .returned (.tuple #[.int .u64 (((hi*Bw+lo)/y:Nat):Int),.int .u64 (((hi*Bw+lo)%y:Nat):Int)])/\∃q,w'=w.drewN q:=by
 have hy0:((y:Int)==0)=false:=by rw[beq_eq_false_iff_ne];omega
 have hle:¬(y:Int)<=(hi:Int):=by omega
 by_cases h0:hi=0
 ·
  subst h0
  have hyp:(y:Int)≠0:=by omega
  have HW:Hid (IntKind.u64.wrap ((lo:Int)/(y:Int))=((lo/y:Nat):Int)):=by
   have:=Fy (a:=lo/y) (Nat.lt_of_le_of_lt (Nat.div_le_self _ _) hl)
   unfold Hid
   rw[Int.natCast_ediv] at this
   exact this
  clear hy hl
  go_enter func186,ntmps186
  go_wp2_with fail
  go_region
  rw[HW.out]
  go_wp2_with fail
  go_ret2
  refine⟨?_,1,rfl⟩
  rw[Nat.zero_mul,Nat.zero_add]
  rfl
 ·
  have hi0:((hi:Int)==0)=false:=by rw[beq_eq_false_iff_ne];omega
  have LZ:=Δ (pD y hy)
  obtain⟨s,hs⟩:∃s,s=64-bitLen y:=⟨_,rfl⟩
  have h64:=Um hy
  have hb1:1<=bitLen y:=by rw[Gf ω];omega
  have hse:64-(bitLen y:Int)=(s:Int):=by omega
  have hs64:s<64:=by omega
  rw[hse] at LZ
  obtain⟨Y,d1,d0,u,t,x1,x0,P⟩:=wG h1 hy hl hs
  have hws:IntKind.u64.wrap (s:Int)=(s:Int):=Fy (by have:Bw=18446744073709551616:=rfl;omega)
  have hws2:IntKind.u64.wrap (64-(s:Int))=((64-s:Nat):Int):=by
   rw[show (64-(s:Int))=((64-s:Nat):Int) by omega];exact Fy (by have:Bw=18446744073709551616:=rfl;omega)
  have hm1:min s 64=s:=by omega
  have hm2:min (64-s) 64=64-s:=by omega
  have HP:=Δ P
  have hYw:IntKind.u64.wrap ((y:Int)*2^s)=(Y:Int):=by rw[Oa,<-P.Ye,Nat.mod_eq_of_lt P.Yl]
  obtain⟨a,ha⟩:∃a,a=hi*2^s:=⟨_,rfl⟩
  have hal:a<Bw:=by
   have h1:a<=u:=by rw[P.ue,ha];exact Nat.le_add_right _ _
   have:=P.uY;have:=P.Yl;omega
  have hHw:IntKind.u64.wrap ((hi:Int)*2^s)=(a:Int):=by rw[Oa,<-ha,Nat.mod_eq_of_lt hal]
  obtain⟨b,hb⟩:∃b,b=lo/2^(64-s):=⟨_,rfl⟩
  have hLw:(lo:Int)/2^(64-s)=(b:Int):=by rw[hb];simp
  have hbl:b<2^s:=by
   rw[hb]
   have h64s:Bw=2^(64-s)*2^s:=by rw[<-Nat.pow_add,show 64-s+s=64 by omega];exact Bk
   exact Nat.div_lt_of_lt_mul (by rw[<-h64s];exact hl)
  have hOr:bits .or .u64 (a:Int) (b:Int)=(u:Int):=by
   rw[ha];exact jU hbl (by rw[P.ue,hb]) (Nat.lt_trans P.uY P.Yl)
  have hTw:IntKind.u64.wrap ((lo:Int)*2^s)=(t:Int):=by rw[Oa,<-P.te]
  have htl:t<Bw:=by rw[P.te];exact Nat.mod_lt _ Ec
  have hd1:(Y:Int)/4294967296=(d1:Int):=by rw[P.d1e];rfl
  have hd0:bits .and .u64 (Y:Int) 4294967295=(d0:Int):=by rw[P.d0e];exact Tb P.Yl
  have hx1:(t:Int)/4294967296=(x1:Int):=by rw[P.x1e];rfl
  have hx0:bits .and .u64 (t:Int) 4294967295=(x0:Int):=by rw[P.x0e];exact Tb htl
  have hd1n:¬(d1:Int)=0:=by have:=P.d1b;have hB:Bh=4294967296:=rfl;omega
  have hd1p:0<d1:=by omega
  obtain⟨q,hq⟩:∃q,q=u/d1:=⟨_,rfl⟩
  obtain⟨r,hr⟩:∃r,r=u%d1:=⟨_,rfl⟩
  have hul:u<Bw:=Nat.lt_trans P.uY P.Yl
  have hqr:=Nat.mod_add_div u d1
  rw[<-hq,<-hr] at hqr
  have hql:q<Bw:=by rw[hq];exact Nat.lt_of_le_of_lt (Nat.div_le_self _ _) hul
  obtain⟨m,hm⟩:∃m,m=q*d1:=⟨_,rfl⟩
  rw[Nat.mul_comm d1,<-hm] at hqr
  have hqw:IntKind.u64.wrap ((u:Int)/(d1:Int))=(q:Int):=by
   rw[show (u:Int)/(d1:Int)=(q:Int) by rw[hq];rfl];exact Fy hql
  have hmw:IntKind.u64.wrap ((q:Int)*(d1:Int))=(m:Int):=Dl hm.symm ω
  have hrw:IntKind.u64.wrap ((u:Int)-(m:Int))=(r:Int):=by
   rw[show (u:Int)-(m:Int)=(r:Int) by omega];exact Fy ω
  have HH:=Δ h1
  have HLO:=Δ hl
  have HJ0:Hid (Fr d1 d0 u x1 q r):=by unfold Hid;rw[hq,hr];exact Fr.start P.d1b P.d1l P.d0l P.x1l (by rw[P.Yd];exact P.uY)
  obtain⟨A,HA⟩:∃A,Hid (A=(hi*Bw+lo)/y):=⟨_,rfl⟩
  obtain⟨B,HBB⟩:∃B,Hid (B=(hi*Bw+lo)%y):=⟨_,rfl⟩
  rw[<-HA.out,<-HBB.out]
  clear ha hb hs h64 hb1 hal hbl htl P h1 hy hl h0 hse hq hr hqr hql hm hul
  go_enter func186,ntmps186
  go_wp2_with fail
  refine(LZ.out _).mono ?_
  rintro e w' ⟨rfl,rfl⟩
  go_wp2_with fail
  clear hqw hmw hrw hYw hHw hLw hOr hTw hws2 hm2 LZ hle hi0 hy0
  go_loop [15,16] (λqv rv=>∃q r:Nat,qv= .int .u64 (q:Int)/\rv= .int .u64 (r:Int)/\Hid (Fr d1 d0 u x1 q r)) (λqv _=>(intOf qv).toNat)
  case atStart=>exact⟨_,_,rfl,rfl,HJ0⟩
  case round=>
   obtain⟨q,r,rfl,rfl,HJ⟩:=hrel
   clear HJ0
   have HU:Hid (u<d1*Bh+d0):=by unfold Hid;rw[HP.out.Yd];exact HP.out.uY
   have hB:Bh=4294967296:=rfl
   have HqB:Hid (q<Bw):=by unfold Hid;have:=HJ.out.ql;have:Bw=18446744073709551616:=rfl;omega
   by_cases hc:Bh<=q\/Bh*r+x1<q*d0
   ·
    have HD:=Δ (HJ.out.down HP.out.d1b HP.out.x1l HU.out hc)
    obtain⟨q',hq'⟩:∃q',q'=q-1:=⟨_,rfl⟩
    obtain⟨r',hr'⟩:∃r',r'=r+d1:=⟨_,rfl⟩
    have hqlt:q'<q:=by have:=HD.out.1;omega
    have hqw:IntKind.u64.wrap ((q:Int)-1)=(q':Int):=by rw[hq'];exact Lj HqB.out HD.out.1
    have hrw:IntKind.u64.wrap ((r:Int)+(d1:Int))=(r':Int):=by
     refine Ex hr'.symm ?_
     have:=HJ.out.rl;have:=HP.out.d1l;have:Bw=18446744073709551616:=rfl;omega
    rw[<-hq',<-hr'] at HD
    have HBRK:Hid (Bh<=r'->q'=(u*Bh+x1)/(d1*Bh+d0)):=λh=>by rw[hq'];exact HJ.out.brk HP.out.d1b HP.out.d0l HP.out.x1l HU.out hc (by rw[<-hr'];exact h)
    have HNX:Hid (r'<Bh->Fr d1 d0 u x1 q' r'):=λh=>⟨HD.out.2,by have:=HJ.out.ql;omega,h⟩
    by_cases hA:Bh<=q
    ·
     have hAi:(4294967296:Int)<=(q:Int):=by omega
     clear hc hq' hr' hA hB
     by_cases hb:Bh<=r'
     ·
      have hB:Bh=4294967296:=rfl
      have hbi:(4294967296:Int)<=(r':Int):=by omega
      have HQ:=Δ (HBRK.out hb)
      clear hb hB
      have HQ1:=HQ
      clear HQ
      generalize q'=qq at*
      obtain⟨v,q2,r2,m2,HV,hvw,hqw2,hmw2,hrw2,HJ0,HVY⟩:=fJ HP HQ1
      go_wp2_with (first|rw[hvw]|rw[hqw2]|rw[hmw2]|rw[hrw2])
      clear hvw hqw2 hmw2 hrw2
      go_loop [18,16] (λqv rv=>∃q r:Nat,qv= .int .u64 (q:Int)/\rv= .int .u64 (r:Int)/\Hid (Fr d1 d0 v x0 q r)) (λqv _=>(intOf qv).toNat)
      case atStart=>exact⟨_,_,rfl,rfl,HJ0⟩
      case round=>
       obtain⟨q,r,rfl,rfl,HJ⟩:=hrel
       clear HJ0
       have HU:Hid (v<d1*Bh+d0):=by unfold Hid;rw[HP.out.Yd];exact HVY.out
       have hB:Bh=4294967296:=rfl
       have HqB:Hid (q<Bw):=by unfold Hid;have:=HJ.out.ql;have:Bw=18446744073709551616:=rfl;omega
       by_cases hc:Bh<=q\/Bh*r+x0<q*d0
       ·
        have HD:=Δ (HJ.out.down HP.out.d1b HP.out.x0l HU.out hc)
        obtain⟨q',hq'⟩:∃q',q'=q-1:=⟨_,rfl⟩
        obtain⟨r',hr'⟩:∃r',r'=r+d1:=⟨_,rfl⟩
        have hqlt:q'<q:=by have:=HD.out.1;omega
        have hqw:IntKind.u64.wrap ((q:Int)-1)=(q':Int):=by rw[hq'];exact Lj HqB.out HD.out.1
        have hrw:IntKind.u64.wrap ((r:Int)+(d1:Int))=(r':Int):=by
         refine Ex hr'.symm ?_
         have:=HJ.out.rl;have:=HP.out.d1l;have:Bw=18446744073709551616:=rfl;omega
        rw[<-hq',<-hr'] at HD
        have HBRK:Hid (Bh<=r'->q'=(v*Bh+x0)/(d1*Bh+d0)):=λh=>by rw[hq'];exact HJ.out.brk HP.out.d1b HP.out.d0l HP.out.x0l HU.out hc (by rw[<-hr'];exact h)
        have HNX:Hid (r'<Bh->Fr d1 d0 v x0 q' r'):=λh=>⟨HD.out.2,by have:=HJ.out.ql;omega,h⟩
        by_cases hA:Bh<=q
        ·
         have hAi:(4294967296:Int)<=(q:Int):=by omega
         clear hc hq' hr' hA hB
         by_cases hb:Bh<=r'
         ·
          have hB:Bh=4294967296:=rfl
          have hbi:(4294967296:Int)<=(r':Int):=by omega
          have HQ:=Δ (HBRK.out hb)
          clear hb hB
          obtain⟨z,S,hzw,hRw,hSw,hSw3,hSw2,hSw4,HAS⟩:=Kw HP HV HQ1 HQ HH HLO HA HBB
          go_wp2_with (first|rw[hzw]|rw[hRw]|rw[hSw]|rw[hSw2]|rw[hSw3])
          go_ret2
          refine⟨?_,0,rfl⟩
          rw[HAS.out]
          rfl
         ·
          have HN:=Δ (HNX.out ω)
          have hB:Bh=4294967296:=rfl
          have hbi:¬(4294967296:Int)<=(r':Int):=by omega
          clear hb hB
          go_wp2_with fail
          go_round
          case rel=>exact⟨q',r',rfl,rfl,HN⟩
          case measure=>simp only[intOf];omega
        ·
         have hAi:¬(4294967296:Int)<=(q:Int):=by omega
         have hlt:Bh*r+x0<q*d0:=by omega
         obtain⟨p,hp⟩:∃p,p=q*d0:=⟨_,rfl⟩
         obtain⟨e,he⟩:∃e,e=Bh*r:=⟨_,rfl⟩
         obtain⟨f,hf⟩:∃f,f=e+x0:=⟨_,rfl⟩
         have hpl:p<Bw:=by rw[hp];exact Kg ω HP.out.d0l
         have hfl:f<Bw:=by rw[hf,he];exact Kh HJ.out.rl HP.out.x0l
         have hpw:IntKind.u64.wrap ((q:Int)*(d0:Int))=(p:Int):=Dl hp.symm hpl
         have hew:IntKind.u64.wrap (4294967296*(r:Int))=(e:Int):=by
          have:=Dl (a:=Bh) (b:=r) he.symm ω
          rw[hB] at this;exact this
         have hfw:IntKind.u64.wrap ((e:Int)+(x0:Int))=(f:Int):=Ex hf.symm hfl
         rw[<-he,<-hf,<-hp] at hlt
         have hlti:(f:Int)<(p:Int):=by omega
         clear hc hq' hr' hA hB hp he hf hpl hfl
         by_cases hb:Bh<=r'
         ·
          have hB:Bh=4294967296:=rfl
          have hbi:(4294967296:Int)<=(r':Int):=by omega
          have HQ:=Δ (HBRK.out hb)
          clear hb hB
          obtain⟨z,S,hzw,hRw,hSw,hSw3,hSw2,hSw4,HAS⟩:=Kw HP HV HQ1 HQ HH HLO HA HBB
          go_wp2_with (first|rw[hzw]|rw[hRw]|rw[hSw]|rw[hSw2]|rw[hSw3])
          go_ret2
          refine⟨?_,0,rfl⟩
          rw[HAS.out]
          rfl
         ·
          have HN:=Δ (HNX.out ω)
          have hB:Bh=4294967296:=rfl
          have hbi:¬(4294967296:Int)<=(r':Int):=by omega
          clear hb hB
          go_wp2_with fail
          go_round
          case rel=>exact⟨q',r',rfl,rfl,HN⟩
          case measure=>simp only[intOf];omega
       ·
        have hA:¬Bh<=q:=λh=>hc (.inl h)
        have hAi:¬(4294967296:Int)<=(q:Int):=by omega
        have hnlt:¬Bh*r+x0<q*d0:=λh=>hc (.inr h)
        have HQ:Hid (q=(v*Bh+x0)/(d1*Bh+d0)):=HJ.out.done HP.out.d1b ω
        obtain⟨p,hp⟩:∃p,p=q*d0:=⟨_,rfl⟩
        obtain⟨e,he⟩:∃e,e=Bh*r:=⟨_,rfl⟩
        obtain⟨f,hf⟩:∃f,f=e+x0:=⟨_,rfl⟩
        have hpl:p<Bw:=by rw[hp];exact Kg ω HP.out.d0l
        have hfl:f<Bw:=by rw[hf,he];exact Kh HJ.out.rl HP.out.x0l
        have hpw:IntKind.u64.wrap ((q:Int)*(d0:Int))=(p:Int):=Dl hp.symm hpl
        have hew:IntKind.u64.wrap (4294967296*(r:Int))=(e:Int):=by
         have:=Dl (a:=Bh) (b:=r) he.symm ω
         rw[hB] at this;exact this
        have hfw:IntKind.u64.wrap ((e:Int)+(x0:Int))=(f:Int):=Ex hf.symm hfl
        rw[<-he,<-hf,<-hp] at hnlt
        have hlti:¬(f:Int)<(p:Int):=by omega
        clear hc hA hB hp he hf hpl hfl hnlt
        obtain⟨z,S,hzw,hRw,hSw,hSw3,hSw2,hSw4,HAS⟩:=Kw HP HV HQ1 HQ HH HLO HA HBB
        go_wp2_with (first|rw[hzw]|rw[hRw]|rw[hSw]|rw[hSw2]|rw[hSw3])
        go_ret2
        refine⟨?_,0,rfl⟩
        rw[HAS.out]
        rfl
     ·
      have HN:=Δ (HNX.out ω)
      have hB:Bh=4294967296:=rfl
      have hbi:¬(4294967296:Int)<=(r':Int):=by omega
      clear hb hB
      go_wp2_with fail
      go_round
      case rel=>exact⟨q',r',rfl,rfl,HN⟩
      case measure=>simp only[intOf];omega
    ·
     have hAi:¬(4294967296:Int)<=(q:Int):=by omega
     have hlt:Bh*r+x1<q*d0:=by omega
     obtain⟨p,hp⟩:∃p,p=q*d0:=⟨_,rfl⟩
     obtain⟨e,he⟩:∃e,e=Bh*r:=⟨_,rfl⟩
     obtain⟨f,hf⟩:∃f,f=e+x1:=⟨_,rfl⟩
     have hpl:p<Bw:=by rw[hp];exact Kg ω HP.out.d0l
     have hfl:f<Bw:=by rw[hf,he];exact Kh HJ.out.rl HP.out.x1l
     have hpw:IntKind.u64.wrap ((q:Int)*(d0:Int))=(p:Int):=Dl hp.symm hpl
     have hew:IntKind.u64.wrap (4294967296*(r:Int))=(e:Int):=by
      have:=Dl (a:=Bh) (b:=r) he.symm ω
      rw[hB] at this;exact this
     have hfw:IntKind.u64.wrap ((e:Int)+(x1:Int))=(f:Int):=Ex hf.symm hfl
     rw[<-he,<-hf,<-hp] at hlt
     have hlti:(f:Int)<(p:Int):=by omega
     clear hc hq' hr' hA hB hp he hf hpl hfl
     by_cases hb:Bh<=r'
     ·
      have hB:Bh=4294967296:=rfl
      have hbi:(4294967296:Int)<=(r':Int):=by omega
      have HQ:=Δ (HBRK.out hb)
      clear hb hB
      have HQ1:=HQ
      clear HQ
      generalize q'=qq at*
      obtain⟨v,q2,r2,m2,HV,hvw,hqw2,hmw2,hrw2,HJ0,HVY⟩:=fJ HP HQ1
      go_wp2_with (first|rw[hvw]|rw[hqw2]|rw[hmw2]|rw[hrw2])
      clear hvw hqw2 hmw2 hrw2
      go_loop [18,16] (λqv rv=>∃q r:Nat,qv= .int .u64 (q:Int)/\rv= .int .u64 (r:Int)/\Hid (Fr d1 d0 v x0 q r)) (λqv _=>(intOf qv).toNat)
      case atStart=>exact⟨_,_,rfl,rfl,HJ0⟩
      case round=>
       obtain⟨q,r,rfl,rfl,HJ⟩:=hrel
       clear HJ0
       have HU:Hid (v<d1*Bh+d0):=by unfold Hid;rw[HP.out.Yd];exact HVY.out
       have hB:Bh=4294967296:=rfl
       have HqB:Hid (q<Bw):=by unfold Hid;have:=HJ.out.ql;have:Bw=18446744073709551616:=rfl;omega
       by_cases hc:Bh<=q\/Bh*r+x0<q*d0
       ·
        have HD:=Δ (HJ.out.down HP.out.d1b HP.out.x0l HU.out hc)
        obtain⟨q',hq'⟩:∃q',q'=q-1:=⟨_,rfl⟩
        obtain⟨r',hr'⟩:∃r',r'=r+d1:=⟨_,rfl⟩
        have hqlt:q'<q:=by have:=HD.out.1;omega
        have hqw:IntKind.u64.wrap ((q:Int)-1)=(q':Int):=by rw[hq'];exact Lj HqB.out HD.out.1
        have hrw:IntKind.u64.wrap ((r:Int)+(d1:Int))=(r':Int):=by
         refine Ex hr'.symm ?_
         have:=HJ.out.rl;have:=HP.out.d1l;have:Bw=18446744073709551616:=rfl;omega
        rw[<-hq',<-hr'] at HD
        have HBRK:Hid (Bh<=r'->q'=(v*Bh+x0)/(d1*Bh+d0)):=λh=>by rw[hq'];exact HJ.out.brk HP.out.d1b HP.out.d0l HP.out.x0l HU.out hc (by rw[<-hr'];exact h)
        have HNX:Hid (r'<Bh->Fr d1 d0 v x0 q' r'):=λh=>⟨HD.out.2,by have:=HJ.out.ql;omega,h⟩
        by_cases hA:Bh<=q
        ·
         have hAi:(4294967296:Int)<=(q:Int):=by omega
         clear hc hq' hr' hA hB
         by_cases hb:Bh<=r'
         ·
          have hB:Bh=4294967296:=rfl
          have hbi:(4294967296:Int)<=(r':Int):=by omega
          have HQ:=Δ (HBRK.out hb)
          clear hb hB
          obtain⟨z,S,hzw,hRw,hSw,hSw3,hSw2,hSw4,HAS⟩:=Kw HP HV HQ1 HQ HH HLO HA HBB
          go_wp2_with (first|rw[hzw]|rw[hRw]|rw[hSw]|rw[hSw2]|rw[hSw3])
          go_ret2
          refine⟨?_,0,rfl⟩
          rw[HAS.out]
          rfl
         ·
          have HN:=Δ (HNX.out ω)
          have hB:Bh=4294967296:=rfl
          have hbi:¬(4294967296:Int)<=(r':Int):=by omega
          clear hb hB
          go_wp2_with fail
          go_round
          case rel=>exact⟨q',r',rfl,rfl,HN⟩
          case measure=>simp only[intOf];omega
        ·
         have hAi:¬(4294967296:Int)<=(q:Int):=by omega
         have hlt:Bh*r+x0<q*d0:=by omega
         obtain⟨p,hp⟩:∃p,p=q*d0:=⟨_,rfl⟩
         obtain⟨e,he⟩:∃e,e=Bh*r:=⟨_,rfl⟩
         obtain⟨f,hf⟩:∃f,f=e+x0:=⟨_,rfl⟩
         have hpl:p<Bw:=by rw[hp];exact Kg ω HP.out.d0l
         have hfl:f<Bw:=by rw[hf,he];exact Kh HJ.out.rl HP.out.x0l
         have hpw:IntKind.u64.wrap ((q:Int)*(d0:Int))=(p:Int):=Dl hp.symm hpl
         have hew:IntKind.u64.wrap (4294967296*(r:Int))=(e:Int):=by
          have:=Dl (a:=Bh) (b:=r) he.symm ω
          rw[hB] at this;exact this
         have hfw:IntKind.u64.wrap ((e:Int)+(x0:Int))=(f:Int):=Ex hf.symm hfl
         rw[<-he,<-hf,<-hp] at hlt
         have hlti:(f:Int)<(p:Int):=by omega
         clear hc hq' hr' hA hB hp he hf hpl hfl
         by_cases hb:Bh<=r'
         ·
          have hB:Bh=4294967296:=rfl
          have hbi:(4294967296:Int)<=(r':Int):=by omega
          have HQ:=Δ (HBRK.out hb)
          clear hb hB
          obtain⟨z,S,hzw,hRw,hSw,hSw3,hSw2,hSw4,HAS⟩:=Kw HP HV HQ1 HQ HH HLO HA HBB
          go_wp2_with (first|rw[hzw]|rw[hRw]|rw[hSw]|rw[hSw2]|rw[hSw3])
          go_ret2
          refine⟨?_,0,rfl⟩
          rw[HAS.out]
          rfl
         ·
          have HN:=Δ (HNX.out ω)
          have hB:Bh=4294967296:=rfl
          have hbi:¬(4294967296:Int)<=(r':Int):=by omega
          clear hb hB
          go_wp2_with fail
          go_round
          case rel=>exact⟨q',r',rfl,rfl,HN⟩
          case measure=>simp only[intOf];omega
       ·
        have hA:¬Bh<=q:=λh=>hc (.inl h)
        have hAi:¬(4294967296:Int)<=(q:Int):=by omega
        have hnlt:¬Bh*r+x0<q*d0:=λh=>hc (.inr h)
        have HQ:Hid (q=(v*Bh+x0)/(d1*Bh+d0)):=HJ.out.done HP.out.d1b ω
        obtain⟨p,hp⟩:∃p,p=q*d0:=⟨_,rfl⟩
        obtain⟨e,he⟩:∃e,e=Bh*r:=⟨_,rfl⟩
        obtain⟨f,hf⟩:∃f,f=e+x0:=⟨_,rfl⟩
        have hpl:p<Bw:=by rw[hp];exact Kg ω HP.out.d0l
        have hfl:f<Bw:=by rw[hf,he];exact Kh HJ.out.rl HP.out.x0l
        have hpw:IntKind.u64.wrap ((q:Int)*(d0:Int))=(p:Int):=Dl hp.symm hpl
        have hew:IntKind.u64.wrap (4294967296*(r:Int))=(e:Int):=by
         have:=Dl (a:=Bh) (b:=r) he.symm ω
         rw[hB] at this;exact this
        have hfw:IntKind.u64.wrap ((e:Int)+(x0:Int))=(f:Int):=Ex hf.symm hfl
        rw[<-he,<-hf,<-hp] at hnlt
        have hlti:¬(f:Int)<(p:Int):=by omega
        clear hc hA hB hp he hf hpl hfl hnlt
        obtain⟨z,S,hzw,hRw,hSw,hSw3,hSw2,hSw4,HAS⟩:=Kw HP HV HQ1 HQ HH HLO HA HBB
        go_wp2_with (first|rw[hzw]|rw[hRw]|rw[hSw]|rw[hSw2]|rw[hSw3])
        go_ret2
        refine⟨?_,0,rfl⟩
        rw[HAS.out]
        rfl
     ·
      have HN:=Δ (HNX.out ω)
      have hB:Bh=4294967296:=rfl
      have hbi:¬(4294967296:Int)<=(r':Int):=by omega
      clear hb hB
      go_wp2_with fail
      go_round
      case rel=>exact⟨q',r',rfl,rfl,HN⟩
      case measure=>simp only[intOf];omega
   ·
    have hA:¬Bh<=q:=λh=>hc (.inl h)
    have hAi:¬(4294967296:Int)<=(q:Int):=by omega
    have hnlt:¬Bh*r+x1<q*d0:=λh=>hc (.inr h)
    have HQ:Hid (q=(u*Bh+x1)/(d1*Bh+d0)):=HJ.out.done HP.out.d1b ω
    obtain⟨p,hp⟩:∃p,p=q*d0:=⟨_,rfl⟩
    obtain⟨e,he⟩:∃e,e=Bh*r:=⟨_,rfl⟩
    obtain⟨f,hf⟩:∃f,f=e+x1:=⟨_,rfl⟩
    have hpl:p<Bw:=by rw[hp];exact Kg ω HP.out.d0l
    have hfl:f<Bw:=by rw[hf,he];exact Kh HJ.out.rl HP.out.x1l
    have hpw:IntKind.u64.wrap ((q:Int)*(d0:Int))=(p:Int):=Dl hp.symm hpl
    have hew:IntKind.u64.wrap (4294967296*(r:Int))=(e:Int):=by
     have:=Dl (a:=Bh) (b:=r) he.symm ω
     rw[hB] at this;exact this
    have hfw:IntKind.u64.wrap ((e:Int)+(x1:Int))=(f:Int):=Ex hf.symm hfl
    rw[<-he,<-hf,<-hp] at hnlt
    have hlti:¬(f:Int)<(p:Int):=by omega
    clear hc hA hB hp he hf hpl hfl hnlt
    have HQ1:=HQ
    clear HQ
    generalize q=qq at*
    obtain⟨v,q2,r2,m2,HV,hvw,hqw2,hmw2,hrw2,HJ0,HVY⟩:=fJ HP HQ1
    go_wp2_with (first|rw[hvw]|rw[hqw2]|rw[hmw2]|rw[hrw2])
    clear hvw hqw2 hmw2 hrw2
    go_loop [18,16] (λqv rv=>∃q r:Nat,qv= .int .u64 (q:Int)/\rv= .int .u64 (r:Int)/\Hid (Fr d1 d0 v x0 q r)) (λqv _=>(intOf qv).toNat)
    case atStart=>exact⟨_,_,rfl,rfl,HJ0⟩
    case round=>
     obtain⟨q,r,rfl,rfl,HJ⟩:=hrel
     clear HJ0
     have HU:Hid (v<d1*Bh+d0):=by unfold Hid;rw[HP.out.Yd];exact HVY.out
     have hB:Bh=4294967296:=rfl
     have HqB:Hid (q<Bw):=by unfold Hid;have:=HJ.out.ql;have:Bw=18446744073709551616:=rfl;omega
     by_cases hc:Bh<=q\/Bh*r+x0<q*d0
     ·
      have HD:=Δ (HJ.out.down HP.out.d1b HP.out.x0l HU.out hc)
      obtain⟨q',hq'⟩:∃q',q'=q-1:=⟨_,rfl⟩
      obtain⟨r',hr'⟩:∃r',r'=r+d1:=⟨_,rfl⟩
      have hqlt:q'<q:=by have:=HD.out.1;omega
      have hqw:IntKind.u64.wrap ((q:Int)-1)=(q':Int):=by rw[hq'];exact Lj HqB.out HD.out.1
      have hrw:IntKind.u64.wrap ((r:Int)+(d1:Int))=(r':Int):=by
       refine Ex hr'.symm ?_
       have:=HJ.out.rl;have:=HP.out.d1l;have:Bw=18446744073709551616:=rfl;omega
      rw[<-hq',<-hr'] at HD
      have HBRK:Hid (Bh<=r'->q'=(v*Bh+x0)/(d1*Bh+d0)):=λh=>by rw[hq'];exact HJ.out.brk HP.out.d1b HP.out.d0l HP.out.x0l HU.out hc (by rw[<-hr'];exact h)
      have HNX:Hid (r'<Bh->Fr d1 d0 v x0 q' r'):=λh=>⟨HD.out.2,by have:=HJ.out.ql;omega,h⟩
      by_cases hA:Bh<=q
      ·
       have hAi:(4294967296:Int)<=(q:Int):=by omega
       clear hc hq' hr' hA hB
       by_cases hb:Bh<=r'
       ·
        have hB:Bh=4294967296:=rfl
        have hbi:(4294967296:Int)<=(r':Int):=by omega
        have HQ:=Δ (HBRK.out hb)
        clear hb hB
        obtain⟨z,S,hzw,hRw,hSw,hSw3,hSw2,hSw4,HAS⟩:=Kw HP HV HQ1 HQ HH HLO HA HBB
        go_wp2_with (first|rw[hzw]|rw[hRw]|rw[hSw]|rw[hSw2]|rw[hSw3])
        go_ret2
        refine⟨?_,0,rfl⟩
        rw[HAS.out]
        rfl
       ·
        have HN:=Δ (HNX.out ω)
        have hB:Bh=4294967296:=rfl
        have hbi:¬(4294967296:Int)<=(r':Int):=by omega
        clear hb hB
        go_wp2_with fail
        go_round
        case rel=>exact⟨q',r',rfl,rfl,HN⟩
        case measure=>simp only[intOf];omega
      ·
       have hAi:¬(4294967296:Int)<=(q:Int):=by omega
       have hlt:Bh*r+x0<q*d0:=by omega
       obtain⟨p,hp⟩:∃p,p=q*d0:=⟨_,rfl⟩
       obtain⟨e,he⟩:∃e,e=Bh*r:=⟨_,rfl⟩
       obtain⟨f,hf⟩:∃f,f=e+x0:=⟨_,rfl⟩
       have hpl:p<Bw:=by rw[hp];exact Kg ω HP.out.d0l
       have hfl:f<Bw:=by rw[hf,he];exact Kh HJ.out.rl HP.out.x0l
       have hpw:IntKind.u64.wrap ((q:Int)*(d0:Int))=(p:Int):=Dl hp.symm hpl
       have hew:IntKind.u64.wrap (4294967296*(r:Int))=(e:Int):=by
        have:=Dl (a:=Bh) (b:=r) he.symm ω
        rw[hB] at this;exact this
       have hfw:IntKind.u64.wrap ((e:Int)+(x0:Int))=(f:Int):=Ex hf.symm hfl
       rw[<-he,<-hf,<-hp] at hlt
       have hlti:(f:Int)<(p:Int):=by omega
       clear hc hq' hr' hA hB hp he hf hpl hfl
       by_cases hb:Bh<=r'
       ·
        have hB:Bh=4294967296:=rfl
        have hbi:(4294967296:Int)<=(r':Int):=by omega
        have HQ:=Δ (HBRK.out hb)
        clear hb hB
        obtain⟨z,S,hzw,hRw,hSw,hSw3,hSw2,hSw4,HAS⟩:=Kw HP HV HQ1 HQ HH HLO HA HBB
        go_wp2_with (first|rw[hzw]|rw[hRw]|rw[hSw]|rw[hSw2]|rw[hSw3])
        go_ret2
        refine⟨?_,0,rfl⟩
        rw[HAS.out]
        rfl
       ·
        have HN:=Δ (HNX.out ω)
        have hB:Bh=4294967296:=rfl
        have hbi:¬(4294967296:Int)<=(r':Int):=by omega
        clear hb hB
        go_wp2_with fail
        go_round
        case rel=>exact⟨q',r',rfl,rfl,HN⟩
        case measure=>simp only[intOf];omega
     ·
      have hA:¬Bh<=q:=λh=>hc (.inl h)
      have hAi:¬(4294967296:Int)<=(q:Int):=by omega
      have hnlt:¬Bh*r+x0<q*d0:=λh=>hc (.inr h)
      have HQ:Hid (q=(v*Bh+x0)/(d1*Bh+d0)):=HJ.out.done HP.out.d1b ω
      obtain⟨p,hp⟩:∃p,p=q*d0:=⟨_,rfl⟩
      obtain⟨e,he⟩:∃e,e=Bh*r:=⟨_,rfl⟩
      obtain⟨f,hf⟩:∃f,f=e+x0:=⟨_,rfl⟩
      have hpl:p<Bw:=by rw[hp];exact Kg ω HP.out.d0l
      have hfl:f<Bw:=by rw[hf,he];exact Kh HJ.out.rl HP.out.x0l
      have hpw:IntKind.u64.wrap ((q:Int)*(d0:Int))=(p:Int):=Dl hp.symm hpl
      have hew:IntKind.u64.wrap (4294967296*(r:Int))=(e:Int):=by
       have:=Dl (a:=Bh) (b:=r) he.symm ω
       rw[hB] at this;exact this
      have hfw:IntKind.u64.wrap ((e:Int)+(x0:Int))=(f:Int):=Ex hf.symm hfl
      rw[<-he,<-hf,<-hp] at hnlt
      have hlti:¬(f:Int)<(p:Int):=by omega
      clear hc hA hB hp he hf hpl hfl hnlt
      obtain⟨z,S,hzw,hRw,hSw,hSw3,hSw2,hSw4,HAS⟩:=Kw HP HV HQ1 HQ HH HLO HA HBB
      go_wp2_with (first|rw[hzw]|rw[hRw]|rw[hSw]|rw[hSw2]|rw[hSw3])
      go_ret2
      refine⟨?_,0,rfl⟩
      rw[HAS.out]
      rfl
structure Xw (y:List Nat) (w:World) (b r k:Nat) (ls:List Nat) (wr:World):Prop where
 row:Aq wr b ls
 below:Below w.heap.size w wr
 len:ls.length=y.length
 dig:Hp ls
 done:∀t,t<k->dg ls t=val y/2^r/Bw^t%Bw
 left:∀t,k<=t->dg ls t=dg y t
theorem Xw.start {y:List Nat} {w wr:World} {b r:Nat} (h:Aq wr b y) (hb:Below w.heap.size w wr) (hd:Hp y):Xw y w b r 0 y wr:=
 ⟨h,hb,rfl,hd,λ_ h=>by omega,λ_ _=>rfl⟩
theorem Xw.step {y:List Nat} {w:World} {b r k:Nat} {ls l2:List Nat} {wr w2:World} (h:Xw y w b r k ls wr) (hk:k<y.length) (hy:Hp y) (hr:r<=64) {z:Nat} (hz:z=dg y k/2^r+dg y (k+1)*2^(64-r)%Bw)
  (hrow:Aq w2 b l2) (hb:Below w.heap.size w w2) (he:l2=ls.set k z):Xw y w b r (k+1) l2 w2:=by
 subst he
 rw[<-yI hy hr hk] at hz
 refine⟨hrow,hb,by rw[List.length_set];exact h.len,h.dig.set (by rw[hz];exact Nat.mod_lt _ Ec),λt ht=>?_,λt ht=>?_⟩
 rcases Nat.lt_or_ge t k with h1|h1
 rw[Hq ω];exact h.done t h1
 rw[show t=k by omega,Mz (by rw[h.len];exact hk),hz]
 rw[Hq ω];exact h.left t ω
theorem Xw.fin {y:List Nat} {w:World} {b r:Nat} {ls:List Nat} {wr:World} (h:Xw y w b r y.length ls wr) (hy:Hp y):val ls=val y/2^r:=by
 refine qL h.dig (λt ht=>h.done t (by rw[<-h.len];exact ht)) ?_
 rw[h.len]
 exact Nat.lt_of_le_of_lt (Nat.div_le_self _ _) (aQ hy)
theorem Agp (n s:Nat) (v:Value) (l0 h0:Nat) (w:World) (h:Bf w l0 h0 v n) (hh:h0<=w.heap.size) (hl:(Ae n).length<=400000) (hs:s<=6400000):
  Calls Tryz.prog 187 #[v,.int .i64 (s:Int)] w (Ek w (n/2^s)):=by
 have hsv:=h.1
 have hcap:=h.2
 obtain⟨A,c,rfl⟩:=hsv.slice
 have hcc:(Ae n).length<=c:=hcap
 have HS:=Δ hsv
 clear h hsv hcap
 obtain⟨W,hW⟩:∃W,W=s/64:=⟨_,rfl⟩
 obtain⟨r,hr⟩:∃r,r=s%64:=⟨_,rfl⟩
 have hq:(s:Int).tdiv 64=(W:Int):=by rw[hW];rfl
 have hm:(s:Int).tmod 64=(r:Int):=by rw[hr];rfl
 have hse:s=64*W+r:=by omega
 have hr64:r<64:=by omega
 have hWle:W<=100000:=by omega
 have HSE:=Δ hse
 clear hW hr hse
 have hw2:=yJ (Cb n) HSE.out
 rw[Bt] at hw2
 rw[<-hw2]
 have HW2:=Δ hw2
 clear hw2
 obtain⟨N,hN⟩:∃N,N=(Ae n).length:=⟨_,rfl⟩
 rw[<-hN] at hl hcc ⊢
 have HN:=Δ hN
 clear hN
 obtain⟨y,hy⟩:∃y,y=(Ae n).drop W:=⟨_,rfl⟩
 rw[<-hy]
 have HY:=Δ hy
 clear hy
 have hyd:Hp y:=by rw[HY.out];exact(Cb n).drop W
 have hyl:y.length=N-W:=by rw[HY.out,List.length_drop,HN.out]
 have HYD:=Δ hyd
 have HYL:=Δ hyl
 clear hyd hyl
 by_cases hWN:N<=W
 ·
  have hWi:(N:Int)<=(W:Int):=by omega
  have HZ:Hid (val y/2^r=0):=by
   have:y=[]:=List.eq_nil_of_length_eq_zero (by rw[HYL.out];omega)
   unfold Hid;rw[this];simp[val]
  go_enter func187,ntmps187
  go_wp2_with (first|rw[hq]|rw[hm])
  go_ret
  exact⟨.slice none 0 0,rfl,⟨by rw[HZ.out,Cf];exact Gc.nil _ _,Nat.le_refl _⟩,Below.refl _ _⟩
 ·
  have hWi:¬(N:Int)<=(W:Int):=by omega
  obtain⟨b0,o,c1,e,_,hb1,hc⟩:=HS.out.pos (by have:=HN.out;omega)
  have hA:A=some ⟨b0,o,none⟩:=by cases e;rfl
  subst hA
  clear e
  have HSY:Hid (Hc w 0 w.heap.size 1 (.slice (some ⟨b0,o+W,none⟩) y.length (c-W)) y.length (Gw y)):=by
   refine⟨by rw[Cd];omega,.inr ⟨b0,o+W,_,rfl,⟨Nat.zero_le _,ω⟩,λj u hu=>?_⟩⟩
   have hj:=(List.getElem?_eq_some_iff.1 hu).1
   rw[Cd,HYL.out] at hj
   rw[Nat.add_assoc]
   refine hc (W+j) u ?_
   rw[<-hu,HY.out]
   simp[Gw]
  have HCELL:Hid (∀j,j<y.length->w.cell? ⟨b0,o+W+j,none⟩=some (.int .u64 (dg y j:Int))):=λj hj=>by
   rw[HYL.out] at hj
   rw[Nat.add_assoc,HY.out,fH]
   exact hc (W+j) _ (Ct _ _ (by have:=HN.out;omega))
  clear hc HS
  have HCL:=Δ (fD y _ 0 w.heap.size w HSY.out ζ (by rw[HYL.out];omega) (by rw[HYL.out];omega))
  obtain⟨K,hK⟩:∃K,Hid (K=y.length):=⟨_,rfl⟩
  rw[<-hK.out] at HSY HCELL HCL
  have hKN:(N:Int)-(W:Int)=(K:Int):=by have:=HYL.out;have:=hK.out;omega
  have hKn:N-W=K:=by have:=HYL.out;have:=hK.out;omega
  have hKNn:K<=N:=by omega
  have hcW:((c:Int)-(W:Int))=((c-W:Nat):Int):=by omega
  have hWc:(W:Int)<=(N:Int):=by omega
  have hNc:(N:Int)<=(c:Int):=by omega
  go_enter func187,ntmps187
  go_wp2_with (first|rw[hq]|rw[hm])
  refine HCL.out.mono ?_
  rintro e w1 ⟨b,cb,rfl,hbb,hcb,hrow,hbel⟩
  have HROW:=Δ hrow
  have HBEL:=Δ hbel
  clear hrow hbel hq hm HCL HSY
  by_cases hr0:r=0
  ·
   subst hr0
   have HFIN:Hid (Calls Tryz.prog 54 #[.slice (some ⟨b,0,none⟩) K cb] w1 (Ek w (val y/2^0))):=
    HROW.out.done hbb HBEL.out HYD.out (by rw[<-hK.out];omega) hK.out.symm hcb (by rw[Nat.pow_zero,Nat.div_one])
   go_wp2_with fail
   refine HFIN.out.mono ?_
   rintro e w' ⟨vr,rfl,hv,hb⟩
   go_wp2_with fail
   go_ret
   exact⟨vr,rfl,hv,hb⟩
  ·
   have hr0i:(0:Int)<(r:Int):=by omega
   have HJ0:=Δ (Xw.start (r:=r) HROW.out HBEL.out HYD.out)
   clear HROW HBEL hr0
   go_wp2_with fail
   go_loopw [8,25] (λ_ iv wr=>∃(k:Nat) (ls:List Nat),k<=K/\iv= .int .i64 (k:Nat)/\Hid (Xw y w b r k ls wr)) (λ_ i _=>K-(intOf i).toNat)
   case atStart=>exact⟨0,_,Nat.zero_le _,rfl,HJ0⟩
   case round=>
    obtain⟨k,ls,hk,rfl,HJ⟩:=hrel
    clear HJ0
    by_cases hkK:k=K
    ·
     subst hkK
     have HFIN:Hid (Calls Tryz.prog 54 #[.slice (some ⟨b,0,none⟩) k cb] wr (Ek w (val y/2^r))):=by
      have hJ:=HJ.out
      rw[hK.out] at hJ
      exact HJ.out.row.done hbb HJ.out.below HJ.out.dig (by rw[HJ.out.len,<-hK.out];omega) (by rw[HJ.out.len,<-hK.out]) hcb (hJ.fin HYD.out)
     go_wp2_with fail
     refine HFIN.out.mono ?_
     rintro e w' ⟨vr,rfl,hv,hb⟩
     go_wp2_with fail
     go_ret
     exact⟨vr,rfl,hv,hb⟩
    ·
     have hkn:k<K:=by omega
     have hki:(k:Int)<(K:Int):=by omega
     have HLN:Hid (ls.length=K):=HJ.out.len.trans hK.out.symm
     have gb:wr.cell? ⟨b,k,none⟩=some (.int .u64 (dg ls k:Int)):=HJ.out.row.cell (by rw[HLN.out];exact hkn)
     have gf:=HJ.out.row.frozen k
     obtain⟨x,hx⟩:∃x,x=dg ls k:=⟨_,rfl⟩
     rw[<-hx] at gb
     have HX:Hid (x=dg y k):=by unfold Hid;rw[hx];exact HJ.out.left k ζ
     clear hx
     have HXB:Hid (x<Bw):=by rw[HX.out];exact Hj HYD.out k
     obtain⟨a,ha⟩:∃a,a=x/2^r:=⟨_,rfl⟩
     have hsh:(x:Int)/2^r=(a:Int):=by rw[ha];simp
     have HA:=Δ ha
     clear ha
     by_cases hk1:k+1<K
     ·
      have hk1i:(k:Int)+1<(K:Int):=by omega
      have g1:wr.cell? ⟨b0,o+(W+k+1),none⟩=some (.int .u64 (dg y (k+1):Int)):=by
       rw[show o+(W+k+1)=o+W+(k+1) by omega]
       exact(HJ.out.below.cell (p:=⟨b0,o+W+(k+1),none⟩) (by show b0<_;omega)).trans (HCELL.out _ hk1)
      obtain⟨u,hu⟩:∃u,u=dg y (k+1):=⟨_,rfl⟩
      rw[<-hu] at g1
      have HU:=Δ hu
      clear hu
      obtain⟨z,hz⟩:∃z,z=a+u*2^(64-r)%Bw:=⟨_,rfl⟩
      have hr64':(64:Int)-(r:Int)=((64-r:Nat):Int):=by omega
      have hOr:bits .or .u64 (a:Int) (IntKind.u64.wrap ((u:Int)*2^(64-r)))=(z:Int):=by
       rw[Oa,Mg (by rw[HA.out];exact Nat.lt_of_le_of_lt (Nat.div_le_self _ _) HXB.out) (Nat.mod_lt _ Ec),HA.out,AiD HXB.out ω,hz,HA.out]
      have HZ:Hid (z=dg y k/2^r+dg y (k+1)*2^(64-r)%Bw):=by rw[hz,HA.out,HX.out,HU.out];exact rfl
      clear hz
      have hW1:((W:Int)+(k:Int)+1)<(N:Int):=by omega
      have HST:Hid (∀w2,Aq w2 b ((ls.set k a).set k z)->Below w.heap.size w w2->Xw y w b r (k+1) ((ls.set k a).set k z) w2):=λw2 h1 h2=>
       HJ.out.step (by have:=hK.out;omega) HYD.out ω HZ.out h1 h2 (List.set_set ..)
      go_wp2_with fail
      go_region
      have HNX:=Δ (HST.out _ ((HJ.out.row.set k a).set k z).drew ((HJ.out.below.setCell hbb _).setCell hbb _).drew)
      obtain⟨w3,hw3⟩:∃w3,w3=((wr.setCell ⟨b,k,none⟩ (.int .u64 (a:Int))).setCell ⟨b,k,none⟩ (.int .u64 (z:Int))).drew:=⟨_,rfl⟩
      rw[<-hw3] at HNX ⊢
      clear hw3
      go_wp2_with fail
      exact⟨⟨k+1,_,ω,rfl,HNX⟩,by simp only[intOf];omega⟩
     ·
      have hk1i:¬(k:Int)+1<(K:Int):=by omega
      have HST:Hid (Xw y w b r (k+1) (ls.set k a) (wr.setCell ⟨b,k,none⟩ (.int .u64 (a:Int)))):=by
       refine HJ.out.step (by have:=hK.out;omega) HYD.out ω ?_ (HJ.out.row.set k a) (HJ.out.below.setCell hbb _) rfl
       rw[Mi (l:=y) (i:=k+1) (by have:=hK.out;omega),Nat.zero_mul,Nat.zero_mod,Nat.add_zero,HA.out,HX.out]
      go_wp2_with fail
      exact⟨⟨k+1,_,ω,rfl,HST⟩,by simp only[intOf];omega⟩
theorem Oh.drewN {w wr:World} {ls:List Nat} (h:Oh w wr ls):∀q,Oh w (wr.drewN q) ls
 |0=>h
 |q+1=>(Oh.drewN h q).drew
structure Mw (x:List Nat) (w:World) (d i c:Nat) (ls:List Nat) (wr:World):Prop where
 buf:Oh w wr ls
 len:ls.length=x.length
 dig:Hp ls
 sum:val (x.drop i)=val (ls.drop i)*d+c
 carry:c<d
theorem Mw.start {x:List Nat} {w wr:World} {d:Nat} (h:Oh w wr (List.replicate x.length 0)) (hd:0<d):Mw x w d x.length 0 (List.replicate x.length 0) wr:=
 ⟨h,by simp,Hp.zeros _,by simp[val],hd⟩
theorem Mw.step {x:List Nat} {w:World} {d i c:Nat} {ls:List Nat} {wr w2:World} (h:Mw x w d (i+1) c ls wr) (hi:i<x.length) (hx:Hp x) (_:d<Bw) {t:Nat} (ht:t=(c*Bw+dg x i)/d) (hb:Oh w w2 (ls.set i t)):
  Mw x w d i ((c*Bw+dg x i)%d) (ls.set i t) w2:=by
 have hd0:0<d:=Nat.lt_of_le_of_lt Ω h.carry
 have htB:t<Bw:=by rw[ht];exact Uq h.carry (Hj hx i)
 refine⟨hb,by rw[List.length_set];exact h.len,h.dig.set htB,?_,Nat.mod_lt _ hd0⟩
 rw[Lw hi,h.sum,Lw (l:=ls.set i t) (by rw[List.length_set,h.len];exact hi),Mz (by rw[h.len];exact hi),List.drop_set_of_lt ω]
 have e:=Nat.mod_add_div (c*Bw+dg x i) d
 rw[<-ht] at e
 generalize (c*Bw+dg x i)%d=r at*
 generalize val (ls.drop (i+1))=z at*
 grind
theorem Mw.fin {x:List Nat} {w:World} {d c:Nat} {ls:List Nat} {wr:World} (h:Mw x w d 0 c ls wr):val ls=val x/d/\c=val x%d:=by
 have e:=h.sum
 have h2:=h.carry
 simp only[List.drop_zero] at e
 have e1:val x/d=val ls:=Adv ω (by rw[Nat.add_mul];omega)
 refine⟨e1.symm,?_⟩
 have:=Nat.div_add_mod (val x) d
 rw[e1,Nat.mul_comm] at this
 omega
def vO (w:World) (n d:Nat) (e:Ending) (w':World):Prop:=∃v',e= .returned (.tuple #[v',.int .u64 ((n%d:Nat):Int)])/\Bf w' w.heap.size w'.heap.size v' (n/d)/\Below w.heap.size w w'
theorem yK (n d:Nat) (v:Value) (l0 h0:Nat) (w:World) (h:Bf w l0 h0 v n) (hh:h0<=w.heap.size) (hl:(Ae n).length<=400000) (hd0:0<d) (hd:d<Bw):
  Calls Tryz.prog 185 #[v,.int .u64 (d:Int)] w (vO w n d):=by
 have hsv:=h.1
 obtain⟨A,c,rfl⟩:=hsv.slice
 have HS:=Δ hsv
 clear h hsv
 have hmk:=Iz (Ae n).length ω w
 obtain⟨V,hV⟩:∃V,V=w.alloc (.cells (Ld (List.replicate (Ae n).length 0)) 92):=⟨_,rfl⟩
 rw[<-hV] at hmk
 have HJ0:=Δ (Mw.start (x:=Ae n) (w:=w) (wr:=V) (d:=d) (by rw[hV];exact Oh.start _ _) hd0)
 have HD:=Δ hd
 clear hV hd
 obtain⟨N,hN⟩:∃N,N=(Ae n).length:=⟨_,rfl⟩
 rw[<-hN] at hl hmk ⊢
 have HN:=Δ hN
 rw[<-hN] at HJ0
 clear hN
 go_enter func185,ntmps185
 go_wp2_with fail
 go_loopw [7,8] (λcv iv wr=>∃(i c:Nat) (ls:List Nat),i<=N/\iv= .int .i64 ((i:Int)-1)/\cv= .int .u64 (c:Int)/\Hid (Mw (Ae n) w d i c ls wr)) (λ_ iv _=>(intOf iv+1).toNat)
 case atStart=>exact⟨N,0,_,Nat.le_refl _,rfl,rfl,HJ0⟩
 case round=>
  obtain⟨i,c,ls,hi,rfl,rfl,HJ⟩:=hrel
  clear HJ0 hmk
  by_cases hi0:i=0
  ·
   subst hi0
   have HFIN:Hid (Calls Tryz.prog 54 #[.slice (some ⟨w.heap.size,0,none⟩) N N] wr (Ek w (n/d))):=by
    have hJ:=HJ.out
    have hv:=hJ.fin.1
    rw[Bt] at hv
    exact hJ.buf.done hJ.dig (by rw[hJ.len,<-HN.out];omega) (by rw[hJ.len,<-HN.out]) hv
   have HC:Hid (n%d=c):=by
    have hv:=HJ.out.fin.2
    rw[Bt] at hv
    exact hv.symm
   go_wp2_with fail
   refine HFIN.out.mono ?_
   rintro e w' ⟨vr,rfl,hv,hb⟩
   go_wp2_with fail
   go_ret2
   exact⟨vr,by rw[HC.out];rfl,hv,hb⟩
  ·
   obtain⟨j,rfl⟩:∃j,i=j+1:=⟨i-1,ω⟩
   obtain⟨b,o,c1,e,_,hb1,hc⟩:=HS.out.pos (by have:=HN.out;omega)
   have hA:A=some ⟨b,o,none⟩:=by cases e;rfl
   subst hA
   clear e
   have g0:wr.cell? ⟨b,o+j,none⟩=some (.int .u64 (dg (Ae n) j:Int)):=(HJ.out.buf.below.cell (p:=⟨b,o+j,none⟩) (by show b<_;omega)).trans (hc _ _ (Ct _ _ (by have:=HN.out;omega)))
   clear hc
   have hjs:((j+1:Nat):Int)-1=(j:Int):=by omega
   rw[hjs]
   have hjN:(j:Int)<(N:Int):=by omega
   have hjn:j<N:=by omega
   have hj0:(0:Int)<=(j:Int):=by omega
   have HX:=Δ (Hj (Cb n) j)
   have HDIV:=Δ (cZ c (dg (Ae n) j) d HJ.out.carry HD.out HX.out wr)
   obtain⟨q,HQ⟩:∃q,Hid (q=(c*Bw+dg (Ae n) j)/d):=⟨_,rfl⟩
   obtain⟨r,HR⟩:∃r,Hid (r=(c*Bw+dg (Ae n) j)%d):=⟨_,rfl⟩
   rw[<-HQ.out,<-HR.out] at HDIV
   have HST:Hid (∀w2,Oh w w2 (ls.set j q)->Mw (Ae n) w d j r (ls.set j q) w2):=λw2 h=>by
    rw[HR.out];exact HJ.out.step (by have:=HN.out;omega) (Cb n) HD.out HQ.out h
   have HLN:Hid (ls.length=N):=by unfold Hid;rw[HN.out];exact HJ.out.len
   generalize dg (Ae n) j=x at*
   clear hjs
   go_wp2_with fail
   refine HDIV.out.mono ?_
   rintro e w' ⟨rfl,⟨k,rfl⟩⟩
   obtain⟨w2,hw2⟩:∃w2,w2=wr.drewN k:=⟨_,rfl⟩
   rw[<-hw2]
   have HB2:Hid (Oh w w2 ls):=by rw[hw2];exact HJ.out.buf.drewN k
   clear hw2
   have gb:w2.cell? ⟨w.heap.size,j,none⟩=some (.int .u64 (dg ls j:Int)):=HB2.out.cell (by have:=HLN.out;omega)
   have gf:=HB2.out.frozen j
   generalize dg ls j=u at*
   have HS2:=Δ (HST.out _ (HB2.out.set j q))
   go_wp2_with fail
   exact⟨⟨j,r,_,ω,rfl,rfl,HS2⟩,by simp only[intOf];omega⟩
theorem Agx {x y c:Nat} (hx:x<Bw) (hy:y<Bw) (hc:c<=1):x+Bw*(if x<y+c then 1 else 0)=y+c+(x+Bw-y-c)%Bw:=by
 split
 rw[Nat.mod_eq_of_lt ω];omega
 rw[show x+Bw-y-c=(x-y-c)+Bw by omega,Nat.add_mod_right,Nat.mod_eq_of_lt ω];omega
structure oA (x y:List Nat) (w:World) (k c:Nat) (ls:List Nat) (wr:World):Prop where
 buf:Oh w wr ls
 len:ls.length=x.length
 dig:Hp ls
 sum:lo x k+Bw^k*c=lo y k+lo ls k
 carry:c<=1
theorem oA.step {x y:List Nat} {w:World} {k c:Nat} {ls:List Nat} {wr:World} (h:oA x y w k c ls wr) (hk:k<x.length) (hx:Hp x) (hy:Hp y):
  oA x y w (k+1) (if dg x k<dg y k+c then 1 else 0) (ls.set k ((dg x k+Bw-dg y k-c)%Bw)) (wr.setCell ⟨w.heap.size,k,none⟩ (.int .u64 (((dg x k+Bw-dg y k-c)%Bw:Nat):Int))):=by
 refine⟨h.buf.set _ _,by rw[List.length_set];exact h.len,h.dig.set (Nat.mod_lt _ Ec),?_,by split<;>omega⟩
 rw[Ea,Ea,Ea,Sd (Nat.le_refl k),Mz (by have:=h.len;omega),Nat.pow_succ]
 exact AdO h.sum (Agx (Hj hx k) (Hj hy k) h.carry)
theorem oA.fin {x y:List Nat} {w:World} {c:Nat} {ls:List Nat} {wr:World} (h:oA x y w x.length c ls wr) (hy:y.length<=x.length) (hle:val y<=val x):val ls=val x-val y:=by
 have h1:=h.sum
 rw[Il ζ,Il hy,Il (by rw[h.len];exact Nat.le_refl _)] at h1
 have h2:=aQ h.dig
 rw[h.len] at h2
 have h3:=h.carry
 rcases(by omega:c=0\/c=1) with rfl|rfl
 omega
 omega
theorem Ub (n m:Nat) (v v':Value) (l0 h0 l1 h1:Nat) (w:World) (h:Bf w l0 h0 v n) (h':Bf w l1 h1 v' m) (hh:h0<=w.heap.size) (hh':h1<=w.heap.size) (hl:(Ae n).length<=900000) (hle:m<=n):
  Calls Tryz.prog 153 #[v,v'] w (Ek w (n-m)):=by
 have hs:=h.1
 have hs':=h'.1
 obtain⟨A,c,rfl⟩:=hs.slice
 obtain⟨A',c',rfl⟩:=hs'.slice
 have HS:=Δ hs
 have HS':=Δ hs'
 have hmn:=Fg hle
 have HLE:=Δ hle
 clear h h' hs hs' hle
 have hmk:=Iz (Ae n).length ω w
 obtain⟨W,hW⟩:∃W,W=w.alloc (.cells (Ld (List.replicate (Ae n).length 0)) 92):=⟨_,rfl⟩
 rw[<-hW] at hmk
 have J0:oA (Ae n) (Ae m) w 0 0 (List.replicate (Ae n).length 0) W:=⟨by rw[hW];exact Oh.start _ _,by simp,Hp.zeros _,by simp[Ml],ω⟩
 have HJ0:=Δ J0
 have hsub:=yN
 clear J0 hW
 obtain⟨N,hN⟩:∃N,N=(Ae n).length:=⟨_,rfl⟩
 obtain⟨M,hM⟩:∃M,M=(Ae m).length:=⟨_,rfl⟩
 rw[<-hN] at hl hmk
 rw[<-hN,<-hM] at hmn ⊢
 have HN:=Δ hN
 have HM:=Δ hM
 clear hN hM
 go_enter func153,ntmps153
 go_wp2_with fail
 go_loopw [6,7,8,14] (λcv _ _ i wr=>∃(k cc:Nat) (ls:List Nat),k<=N/\i= .int .i64 (k:Nat)/\cv= .int .u64 (cc:Int)/\Hid (oA (Ae n) (Ae m) w k cc ls wr)) (λ_ _ _ i _=>N-(intOf i).toNat)
 case atStart=>exact⟨0,0,_,Nat.zero_le _,rfl,rfl,HJ0⟩
 case round=>
  obtain⟨k,cc,ls,hk,rfl,rfl,HJ⟩:=hrel
  clear HJ0 hmk
  have hcc:=HJ.out.carry
  have hlen:ls.length=N:=by rw[HN.out];exact HJ.out.len
  have gB:∀j,j<N->wr.cell? ⟨w.heap.size,j,none⟩=some (.int .u64 (dg ls j:Int)):=λj h=>HJ.out.buf.cell ω
  have gF:∀j,wr.frozen? ⟨w.heap.size,j,none⟩=false:=HJ.out.buf.frozen
  clear hlen
  by_cases hkN:k=N
  ·
   subst hkN
   clear gB gF hsub
   have HFIN:Hid (Calls Tryz.prog 54 #[.slice (some ⟨w.heap.size,0,none⟩) k k] wr (Ek w (n-m))):=by
    have hJ:=HJ.out
    rw[HN.out] at hJ ⊢
    have hv:=hJ.fin (by rw[<-HN.out,<-HM.out];omega) (by rw[Bt,Bt];exact HLE.out)
    rw[Bt,Bt] at hv
    exact hJ.buf.done hJ.dig (by rw[hJ.len,<-HN.out];omega) hJ.len hv
   go_wp2_with fail
   refine HFIN.out.mono ?_
   rintro e w' ⟨vr,rfl,hv,hb⟩
   go_wp2_with fail
   go_ret
   exact⟨vr,rfl,hv,hb⟩
  ·
   have hkn:k<N:=by omega
   have hki:(k:Int)<(N:Int):=by omega
   obtain⟨b,o,c1,e,_,hb1,hc⟩:=HS.out.pos (by have:=HN.out;omega)
   have hA:A=some ⟨b,o,none⟩:=by cases e;rfl
   subst hA
   clear e
   have g0:wr.cell? ⟨b,o+k,none⟩=some (.int .u64 (dg (Ae n) k:Int)):=(HJ.out.buf.below.cell (p:=⟨b,o+k,none⟩) (by show b<_;omega)).trans (hc _ _ (Ct _ _ (by have:=HN.out;omega)))
   have gb:=gB k ω
   have gf:=gF k
   have HST:=Δ (HJ.out.step (by have:=HN.out;omega) (Cb n) (Cb m))
   clear hc gB gF
   by_cases hkM:k<M
   ·
    obtain⟨b',o',c1',e,_,hb1',hc'⟩:=HS'.out.pos (by have:=HM.out;omega)
    have hA':A'=some ⟨b',o',none⟩:=by cases e;rfl
    subst hA'
    clear e
    have g1:wr.cell? ⟨b',o'+k,none⟩=some (.int .u64 (dg (Ae m) k:Int)):=(HJ.out.buf.below.cell (p:=⟨b',o'+k,none⟩) (by show b'<_;omega)).trans (hc' _ _ (Ct _ _ (by have:=HM.out;omega)))
    have hkMi:(k:Int)<(M:Int):=by omega
    clear hc'
    generalize dg (Ae n) k=x at*
    generalize dg (Ae m) k=y at*
    obtain⟨q,hq⟩:∃q,q=if x<y+cc then 1 else 0:=⟨_,rfl⟩
    have hsx:(callFunc 184 #[.int .u64 (x:Int),.int .u64 (y:Int),.int .u64 (cc:Int)]).run Tryz.prog wr= .ok (.value (.tuple #[.int .u64 (((x+Bw-y-cc)%Bw:Nat):Int),.int .u64 (q:Int)])) wr:=by rw[hq];exact hsub x y cc hcc wr
    rw[<-hq] at HST
    clear hq hsub
    go_wp2_with (rw[hsx])
    go_round
    case rel=>exact⟨k+1,_,_,ω,rfl,rfl,HST⟩
    case measure=>simp only[intOf];omega
   ·
    have hy:dg (Ae m) k=0:=Mi (by have:=HM.out;omega)
    rw[hy] at HST
    have hkMi:¬(k:Int)<(M:Int):=by omega
    generalize dg (Ae n) k=x at*
    obtain⟨q,hq⟩:∃q,q=if x<0+cc then 1 else 0:=⟨_,rfl⟩
    have hsx:(callFunc 184 #[.int .u64 (x:Int),.int .u64 0,.int .u64 (cc:Int)]).run Tryz.prog wr= .ok (.value (.tuple #[.int .u64 (((x+Bw-0-cc)%Bw:Nat):Int),.int .u64 (q:Int)])) wr:=by rw[hq];exact hsub x 0 cc hcc wr
    rw[<-hq] at HST
    clear hq hsub
    go_wp2_with (rw[hsx])
    go_round
    case rel=>exact⟨k+1,_,_,ω,rfl,rfl,HST⟩
    case measure=>simp only[intOf];omega
end Go.Proofs.YtbggmndaahbojaaGreat