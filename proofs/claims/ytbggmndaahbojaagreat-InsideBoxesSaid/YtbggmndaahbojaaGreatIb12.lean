/- Part 12 of the proof of IB.row_holds: no condition beyond the row's. -/
import Derived.Test.YtbggmndaahbojaaGreatIb11
import Derived.Lib.SliceRun
import Derived.Laws.IdiomCopy
import Derived.Deep.LoopGhost
import Derived.MapKept
import Derived.WideKeyRuns
import Derived.Laws.StructEq
set_option maxRecDepth 100000
set_option maxHeartbeats 40000000
namespace Go.Proofs.YtbggmndaahbojaaGreat
open Go.Proofs.Tryz
open Go.RowKit
theorem Bf.more {w:World} {lo hi lo' hi':Nat} {v:Value} {n:Nat} (h:Bf w lo hi v n) (h1:lo'<=lo) (h2:hi<=hi'):Bf w lo' hi' v n:=⟨h.1.more h1 h2,h.2⟩
theorem Bf.below {w w':World} {lo hi:Nat} {v:Value} {n:Nat} (h:Bf w lo hi v n) (hb:Below hi w w'):Bf w' lo hi v n:=⟨h.1.below hb,h.2⟩
theorem Bf.drewN {w:World} {lo hi:Nat} {v:Value} {n:Nat} (h:Bf w lo hi v n) (q:Nat):Bf (w.drewN q) lo hi v n:=⟨h.1.keep λ_ _ _ _=>rfl,h.2⟩
theorem Bf.nil (w:World) (lo hi:Nat):Bf w lo hi (.slice none 0 0) 0:=⟨by rw[Cf];exact Gc.nil _ _,Nat.le_refl _⟩
theorem Bf.upL {w w':World} {lo hi lo':Nat} {v:Value} {n:Nat} (h:Bf w lo hi v n) (hh:hi<=w.heap.size) (hb:Below w.heap.size w w') (hl:lo'<=lo):Bf w' lo' w'.heap.size v n:=
 (h.below (hb.mono hh)).more hl (Nat.le_trans hh hb.size)
def Ajl (w:World) (n m:Nat) (v:Value) (e:Ending) (w':World):Prop:=
 ∃q r,e= .returned (.tuple #[q,r])/\Bf w' w.heap.size w'.heap.size q (n/m)/\((n<m/\r=v)\/Bf w' w.heap.size w'.heap.size r (n%m))/\Below w.heap.size w w'
theorem aO (w:World) (x:Nat) (hx:x<Bw) (t:TypeId):Calls Tryz.prog 54 #[.slice (some ⟨w.heap.size,0,none⟩) 1 1] (w.alloc (.cells #[.int .u64 (x:Int)] t)) (Ek w x):=by
 have hr:Aq (w.alloc (.cells #[.int .u64 (x:Int)] t)) w.heap.size [x]:=Aq.made w [x] t
 exact hr.done ζ (Ψ.alloc ζ _) (λy hy=>by simp at hy;subst hy;exact hx) (by simp) rfl ζ (by simp[val])
def vH (lo n:Nat) (v:Value) (w:World):Prop:=Bf w lo w.heap.size v n
theorem Vn (lo n:Nat):Xx (vH lo n):=λ_ _ _ hb h=>(Bf.below h hb).more ζ hb.size
def cT (lo n:Nat) (v:Value) (w:World):Prop:=∃b,lo<=b/\v= .slice (some ⟨b,0,none⟩) n n/\w.heap[b]?=some (.cells (Ld (List.replicate n 0)) 92 (0,0))
theorem Tm (lo n:Nat):Xx (cT lo n):=λ_ _ _ hb ⟨b,h1,h2,h3⟩=>⟨b,h1,h2,(hb.block b (Ξ h3).1).trans h3⟩
theorem AfL {ops:Array Oper} {k:Nat} {R:Nat->Value->World->Prop} {a0:Act} {Q:Exit->Act->World->Prop} {W:World} {i:Nat} {o:Oper} (t n:Nat) (ho:o.op= .makeSlice 95 (.tmp t) (.tmp t)) {z:Int} (hz:z=(n:Int))
  (hx:Kj ops k R a0 (.tmp t)=is (.int .i64 z)) (hn:n<=10000000) (hr:R i=cT W.heap.size n):Oi Tryz.prog ops k (λw'=>Below W.heap.size W w') R a0 Q i o:=by
 subst hz
 intro a w _ hC hpre
 have h1:a.eval (.tmp t)= .int .i64 (n:Int):=by have:=hpre (.tmp t) (by rw[ho];simp[Op.operands]);rw[hx] at this;exact this
 unfold Oper.wp
 have:(execOp a.eval o).run Tryz.prog w= .ok (.value (.slice (some ⟨w.heap.size,0,none⟩) n n)) (w.alloc (.cells (Ld (List.replicate n 0)) 92)):=by
  simp[execOp,ho,h1,Iz n hn w]
 rw[this]
 refine⟨_,rfl,hC.alloc hC.size _,Ψ.alloc ζ _,?_⟩
 rw[hr]
 exact⟨_,hC.size,rfl,heap_alloc_new _ _⟩
theorem Qq {wr:World} {b:Nat} {ls:List Nat} (h:Aq wr b ls) (hd:Hp ls) {j n c m:Nat} (hj:j+n<=ls.length) (hn:n<=1000000) (hc:n<=c) (hm:val ((ls.drop j).take n)=m):
  Calls Tryz.prog 54 #[.slice (some ⟨b,j,none⟩) n c] wr λe w'=>∃v',e= .returned v'/\Bf wr 0 wr.heap.size v' m/\wr=w':=by
 have hl:((ls.drop j).take n).length=n:=by rw[List.length_take,List.length_drop];omega
 have hs:=h.sees (j:=j) (n:=n) (c:=c) (lo:=0) (hi:=wr.heap.size) hj Ω h.lt
 have:=Qp ((ls.drop j).take n) (.slice (some ⟨b,j,none⟩) n c) 0 wr.heap.size wr (by rw[hl];exact hs) hc ((hd.drop j).take n) ω
 rw[hm] at this
 exact this
theorem yS {wr:World} {b:Nat} {ls:List Nat} (h:Aq wr b ls) (hd:Hp ls) {j n c m:Nat} (hj:j+n<=ls.length) (hn:n<=1000000) (hc:n<=c) (hm:val ((ls.drop j).take n)=m):
  Calls Tryz.prog 54 #[.slice (some ⟨b,j,none⟩) n c] wr λe w'=>∃v',e= .returned v'/\Bf wr b wr.heap.size v' m/\wr=w':=by
 have hl:((ls.drop j).take n).length=n:=by rw[List.length_take,List.length_drop];omega
 have hs:=h.sees (j:=j) (n:=n) (c:=c) (lo:=b) (hi:=wr.heap.size) hj ζ h.lt
 have:=Qp ((ls.drop j).take n) (.slice (some ⟨b,j,none⟩) n c) b wr.heap.size wr (by rw[hl];exact hs) hc ((hd.drop j).take n) ω
 rw[hm] at this
 exact this
theorem AdY (n:Nat):List.replicate n (Value.int .u64 0)=Gw (List.replicate n 0):=by simp[Gw]
theorem Kl (w:World) (ty:TypeId) (b j n c:Nat) (ls:List Nat) (hr:Aq w b ls) (hj:j+n<=ls.length) (v:Value) (x lo hi:Nat) (hx:Bf w lo hi v x) (hxn:(Ae x).length<=n):
  (Builtin.copy_ #[95,95] ty #[.slice (some ⟨b,j,none⟩) n c,v]).run Tryz.prog w= .ok (goInt (Ae x).length) (w.setCells b j (Gw (Ae x))):=by
 obtain⟨i0,hi0,hz0,hz1,hz2⟩:=info_parts aP
 have hsz:(Tryz.prog.info? 92).map (·.size)=some 1:=by rw[hi0];simp[hz1]
 rcases hx.1.2 with⟨A,c',rfl,h0⟩|⟨b',o',c',rfl,_,hc⟩
 have he:Ae x=[]:=List.eq_nil_of_length_eq_zero h0
 rw[he]
 exact run_copy_none w _ _ _ 92 _ _ n c 0 c' underlying95 hsz (by simp)
 have:=run_copy_cells w 95 95 ty 92 b j n c ⟨b',o',none⟩ (Ae x).length c' (Gw (Ae x)) underlying95 hsz
  (by rw[Cd];exact(Nat.min_eq_left hxn).symm) (λi u hu=>by rw[Ff];exact hc i u hu) (λi hi=>by rw[Cd] at hi;rw[hr.cell ω];rfl) (λi _=>hr.frozen _) (mN _)
 rw[Cd] at this
 exact this
theorem Nw (w:World) (ty:TypeId) (b j n c:Nat) (ls:List Nat) (hr:Aq w b ls) (hj:j+n<=ls.length) (hn:0<n):
  (Builtin.clear_ #[95] ty #[.slice (some ⟨b,j,none⟩) n c]).run Tryz.prog w= .ok (.tuple #[]) (w.setCells b j (Gw (List.replicate n 0))):=by
 have hrun:=Lib.run_clear_slice (P:=Tryz.prog) w 95 92 ty (.int .u64 0) underlying95 (λw=>by kernel_rfl) rfl rfl b j n c hn (λi hi=>by rw[hr.cell ω];rfl) (λi _=>hr.frozen _)
 rw[AdY] at hrun
 exact hrun
theorem AfA {g:Nat} (h:g=Bw-1):(18446744073709551615:Int)=(g:Int):=by subst h;rfl
structure nW (w:World) (N M D U br bq:Nat) (vd:Value) (bd i:Nat) (qs ls:List Nat) (wr:World):Prop where
 r:Aq wr br ls
 q:Aq wr bq qs
 d:Bf wr bd (bd+1) vd D
 hd:bd<wr.heap.size
 below:Below w.heap.size w wr
 j:vL U D i qs ls
 rl:ls.length=N+1
 ql:qs.length=N+1-M
structure vK (wr:World) (D W g:Nat) (pv:Value) (wq:World):Prop where
 ge:W/D<=g
 lt:g<Bw
 part:Bf wq 0 wq.heap.size pv (g*D)
 below:Below wr.heap.size wr wq
theorem AhB (n m:Nat) (v v':Value) (l0 h0 l1 h1:Nat) (w:World) (h:Bf w l0 h0 v n) (h':Bf w l1 h1 v' m) (hh:h0<=w.heap.size) (hh':h1<=w.heap.size) (hl:(Ae n).length<=100000) (hl':(Ae m).length<=100000) (hm:0<m):
  Calls Tryz.prog 154 #[v,v'] w (Ajl w n m v):=by
 have hs:=h.1
 have hs':=h'.1
 obtain⟨A,c,rfl⟩:=hs.slice
 obtain⟨A',c',rfl⟩:=hs'.slice
 have HCMP:=Δ (Pu n m _ _ l0 h0 l1 h1 w h h' ω ω)
 have HN0:=Δ h
 have HM0:=Δ h'
 have HS:=Δ hs
 have HS':=Δ hs'
 clear h h' hs hs'
 obtain⟨N,hN⟩:∃N,N=(Ae n).length:=⟨_,rfl⟩
 obtain⟨M,hM⟩:∃M,M=(Ae m).length:=⟨_,rfl⟩
 rw[<-hN] at hl HCMP HN0 HS
 rw[<-hM] at hl' HCMP HM0 HS'
 rw[<-hN,<-hM]
 have HN:=Δ hN
 have HM:=Δ hM
 have hMp:0<M:=by rw[hM];exact List.length_pos_iff.2 λe=>by have:=Ky.1 e;omega
 have HMP:=Δ hm
 clear hN hM hm
 go_enter func154,ntmps154
 go_wp2_with fail
 refine HCMP.out.mono ?_
 rintro e w1 ⟨r,q1,rfl,hw1,HR⟩
 have hb1:Below w.heap.size w w1:=by rw[hw1];exact Ke Ψ q1
 have hz1:w1.heap.size=w.heap.size:=by rw[hw1];simp
 by_cases hlt:n<m
 ·
  have hr0:r<0:=HR.lt.2 hlt
  have HNA:Hid (Bf w1 0 w1.heap.size (.slice A N c) n):=by rw[hw1];exact(HN0.out.drewN q1).more Ω (by simpa using hh)
  have HQ:Hid (n/m=0/\n%m=n):=⟨Nat.div_eq_of_lt hlt,Nat.mod_eq_of_lt hlt⟩
  have HLT:=Δ hlt
  clear hw1 hlt HR HNA
  go_wp2_with fail
  go_ret2
  exact⟨_,_,rfl,by rw[HQ.out.1];exact Bf.nil _ _ _,.inl ⟨HLT.out,rfl⟩,hb1⟩
 ·
  have hr0:¬r<0:=λh=>hlt (HR.lt.1 h)
  have HNL:Hid (m<=n):=by unfold Hid;omega
  have HN1:Hid (Bf w1 l0 h0 (.slice A N c) n):=by rw[hw1];exact HN0.out.drewN q1
  have HM1:Hid (Bf w1 l1 h1 (.slice A' M c') m):=by rw[hw1];exact HM0.out.drewN q1
  obtain⟨bm,om,cm,e,_,hbm,hcm⟩:=HM1.out.1.pos (by rw[<-HM.out];exact hMp)
  have hA':A'=some ⟨bm,om,none⟩:=by cases e;rfl
  subst hA'
  clear e HR HN0 HM0 HS HS' HCMP
  rw[<-hz1] at hh hh'
  by_cases hM1:M=1
  ·
   have hMb:((M:Int)==1)=true:=by rw[hM1];rfl
   have hdm:dg (Ae m) 0=m:=by
    have:=Ea (Ae m) 0
    rw[Il (by rw[<-HM.out,hM1];exact Nat.le_refl _),Bt,Ml] at this
    simp at this;exact this.symm
   have gm:w1.cell? ⟨bm,om,none⟩=some (.int .u64 (m:Int)):=by
    have:=hcm 0 _ (Ct (Ae m) 0 (by rw[<-HM.out,hM1];omega))
    rw[hdm] at this;exact this
   have HMB:Hid (m<Bw):=by unfold Hid;rw[<-hdm];exact Hj (Cb m) 0
   have HSM:=Δ (yK n m (.slice A N c) l0 h0 w1 HN1.out hh (by have:=HN.out;omega) HMP.out HMB.out)
   clear hcm hdm hw1 hlt
   subst hM1
   go_wp2_with fail
   refine HSM.out.mono ?_
   rintro e w2 ⟨vq,rfl,hq,hb2⟩
   have HQ:=Δ hq
   have HT:=Δ (λt=>aO w2 (n%m) (Nat.lt_trans (Nat.mod_lt _ HMP.out) HMB.out) t)
   clear hq
   obtain⟨x,hx⟩:∃x,x=n%m:=⟨_,rfl⟩
   rw[<-hx] at HT ⊢
   have HX:=Δ hx
   clear hx
   go_wp2_with fail
   refine(HT.out _).mono ?_
   rintro e w3 ⟨vr,rfl,hr,hb3⟩
   have hz:=hb2.size
   go_wp2_with fail
   go_ret2
   refine⟨_,_,rfl,HQ.out.upL ζ hb3 ω,.inr ?_,hb1.trans ((hb2.trans (hb3.mono hz)).mono ω)⟩
   rw[<-HX.out]
   exact hr.more ω ζ
  ·
   have hMb:((M:Int)==1)=false:=by rw[beq_eq_false_iff_ne];omega
   have hMi:(M:Int)-1=((M-1:Nat):Int):=by omega
   have hMN:M<=N:=by rw[HM.out,HN.out];exact Fg HNL.out
   have hMl:((M-1:Nat):Int)<(M:Int):=by omega
   have hM0:(0:Int)<=((M-1:Nat):Int):=by omega
   have gm:w1.cell? ⟨bm,om+(M-1),none⟩=some (.int .u64 (dg (Ae m) (M-1):Int)):=hcm _ _ (Ct _ _ (by rw[<-HM.out];omega))
   have hdt:dg (Ae m) (M-1)<Bw:=Hj (Cb m) _
   have HLZ:=Δ (pD (dg (Ae m) (M-1)) hdt)
   obtain⟨b,hb⟩:∃b,b=64-bitLen (dg (Ae m) (M-1)):=⟨_,rfl⟩
   have hbi:64-(bitLen (dg (Ae m) (M-1)):Int)=(b:Int):=by have:=Um hdt;omega
   rw[hbi] at HLZ
   have hst:=yH HM.out.symm hMp hb
   have hqs:=xS (n:=n) (m:=m) (b:=b) HM.out.symm hMp HN.out.symm hMN hst.2
   have hsc:=dC (u:=n) (y:=m) (Nat.two_pow_pos b)
   have hb64:=hst.2
   obtain⟨D,hD⟩:∃D,D=m*2^b:=⟨_,rfl⟩
   obtain⟨U,hU⟩:∃U,U=n*2^b:=⟨_,rfl⟩
   rw[<-hD] at hst hqs hsc
   rw[<-hU] at hqs hsc
   have HK:Hid ((Ae D).length=M):=hst.1
   have HQS:=Δ hqs
   have HSC:=Δ hsc
   have HSHL:Hid (∀wa,Below w1.heap.size w1 wa->Calls Tryz.prog 116 #[.slice (some ⟨bm,om,none⟩) M c',.int .i64 (b:Int)] wa λe w'=>∃v,e= .returned v/\Below w1.heap.size w1 w'/\Below wa.heap.size wa w'/\vH w1.heap.size D v w'):=λwa hC=>by
    refine(iI m b _ l1 h1 wa (HM1.out.below (hC.mono hh')) (Nat.le_trans hh' hC.size) (by rw[<-HM.out];omega) ω).mono ?_
    rintro e w' ⟨v,rfl,hv,hbl⟩
    exact⟨v,rfl,hC.trans (hbl.mono hC.size),hbl,by rw[hD];exact hv.more hC.size ζ⟩
   have HSHN:Hid (∀wa,Below w1.heap.size w1 wa->Calls Tryz.prog 116 #[.slice A N c,.int .i64 (b:Int)] wa (Ek wa U)):=λwa hC=>by
    rw[hU]
    exact iI n b _ l0 h0 wa (HN1.out.below (hC.mono hh)) (Nat.le_trans hh hC.size) (by rw[<-HN.out];omega) ω
   clear hcm hw1 hlt hb hbi hst hqs hsc hD hU hdt
   generalize dg (Ae m) (M-1)=top at*
   go_wp2_with fail
   refine(HLZ.out _).mono ?_
   rintro e w2 ⟨rfl,rfl⟩
   go_wp2_with fail
   refine Vw 9 145 (λw'=>Below w1.heap.size w1 w') [is (.slice (some ⟨bm,om,none⟩) M c'),is (.int .i64 (b:Int)),vH w1.heap.size D,is (.slice A N c),is (.int .i64 (N:Int)),is (.int .i64 ((N:Int)+1)),cT w1.heap.size (N+1),vH w1.heap.size D,cT w1.heap.size (N+1)] κ κ rfl δ ?hst ?h0 ?hop ?htail
   case hst=>
    simp only[List.mem_cons,List.mem_nil_iff,or_false,forall_eq_or_imp,forall_eq]
    exact⟨Cl _,Cl _,Vn _ _,Cl _,Cl _,Cl _,Tm _ _,Vn _ _,Tm _ _⟩
   case h0=>exact Ψ.drew
   case hop=>
    refine⟨?_,?_,?_,?_,?_,?_,?_,?_,?_,trivial⟩
    · exact Mp (.tmp 1) (is (.slice (some ⟨bm,om,none⟩) M c')) rfl κ (λ_ _ _ h=>h)
    · exact Mp (.tmp 8) (is (.int .i64 (b:Int))) rfl κ (λ_ _ _ h=>h)
    · exact AcV 116 [.tmp 45,.tmp 46] _ [.slice (some ⟨bm,om,none⟩) M c',.int .i64 (b:Int)] rfl (λ_ _=>by kernel_rfl) ⟨κ,κ,trivial⟩ HSHL.out
    · exact Mp (.tmp 0) (is (.slice A N c)) rfl κ (λ_ _ _ h=>h)
    · exact AgS 48 (.slice A N c) (.int .i64 (N:Int)) rfl κ (λa wa _ e1=>by go_simp) rfl
    · exact tF 49 (.int .i64 1) (.int .i64 (N:Int)) (.int .i64 ((N:Int)+1)) rfl κ (λa wa _ e1=>by go_simp;exact IntWalk.i64_in _ ω) rfl
    · exact AfL 50 (N+1) rfl (z:=(N:Int)+1) ω κ ω rfl
    · exact dW (.tmp 47) (vH w1.heap.size D) rfl κ (λ_ _ _ h=>h)
    · exact dW (.tmp 51) (cT w1.heap.size (N+1)) rfl κ (λ_ _ _ h=>h)
   case htail=>
   intro τ w2 hC hR
   have r7:vH w1.heap.size D (τ 7) w2:=hR 7 δ
   have r8:cT w1.heap.size (N+1) (τ 8) w2:=hR 8 δ
   obtain⟨vd,hvd⟩:∃vd,vd=τ 7:=⟨_,rfl⟩
   obtain⟨br,hbr,hvr,hrow⟩:=r8
   rw[<-hvd] at r7
   simp only[Fm,List.getElem?_toArray,List.getElem?_cons_succ,List.getElem?_cons_zero,Option.bind_some,Act.put,List.setIfInBounds_toArray,List.set_cons_succ,List.set_cons_zero,List.drop_succ_cons,List.drop_zero,hvr,<-hvd]
   clear hR hvr hvd
   obtain⟨Ad,cd,rfl⟩:=r7.1.slice
   rw[HK.out] at r7 ⊢
   obtain⟨bd,od,cd',e,hbd,hbd2,hcd⟩:=r7.1.pos (by rw[HK.out];exact hMp)
   have hAd:Ad=some ⟨bd,od,none⟩:=by cases e;rfl
   subst hAd
   clear e
   have HDN:Hid (0<D):=by
    have:=HSC.out.1;have:=HQS.out.1
    unfold Hid
    rcases Nat.eq_zero_or_pos D with h|h
    · rw[h] at this;simp at this
    · exact h
   have hne:bd≠br:=by
    intro e
    have h1:=hcd (M-1) _ (Ct (Ae D) (M-1) (by rw[HK.out];omega))
    have h2:=Xb HK.out hMp
    rw[e] at h1
    simp only[World.cell?,hrow] at h1
    rcases Nat.lt_or_ge (od+(M-1)) (N+1) with h3|h3
    ·
     have h4:=Xc (List.replicate (N+1) 0) (od+(M-1)) (by simpa using h3)
     rw[Pw] at h4
     rw[h4] at h1
     simp at h1
     omega
    ·
     rw[Array.getElem?_eq_none (by simpa [Ld,Gw] using h3)] at h1
     cases h1
   have hrr:Aq w2 br (List.replicate (N+1) 0):=⟨_,_,hrow,λi hi=>Xc _ i hi⟩
   have hbrl:br<w2.heap.size:=hrr.lt
   have HR2:=Δ hrr
   have HD2:Hid (Bf w2 bd (bd+1) (.slice (some ⟨bd,od,none⟩) M cd) D):=by
    refine⟨⟨by rw[Cd];omega,.inr ⟨bd,od,cd,by rw[HK.out],⟨Nat.le_refl _,Nat.lt_succ_self _⟩,hcd⟩⟩,r7.2⟩
   have hSU:=HSHN.out w2 hC
   have HSU:=Δ hSU
   have HKU:Hid ((Ae U).length<=N+1):=HQS.out.2
   have HC2:=Δ hC
   clear hcd r7 hrow hrr hSU HSHN hC
   go_wp2_with fail
   refine HSU.out.mono ?_
   rintro e w3 ⟨vU,rfl,hU3,hb3⟩
   have hz3:=hb3.size
   have HR3:Hid (Aq w3 br (List.replicate (N+1) 0)):=HR2.out.below hb3 hbrl
   have HD3:Hid (Bf w3 bd (bd+1) (.slice (some ⟨bd,od,none⟩) M cd) D):=HD2.out.below (hb3.mono hbd2)
   have hb13:Below w1.heap.size w1 w3:=HC2.out.trans (hb3.mono HC2.out.size)
   have HU3:=Δ hU3
   have HB13:=Δ hb13
   clear hU3 hb13 hb3 HR2 HD2 HC2 HSU
   have hcp:=Kl w3 3 br 0 (N+1) (N+1) _ HR3.out (by simp) vU U _ _ HU3.out HKU.out
   obtain⟨W4,hW4⟩:∃W4,W4=w3.setCells br 0 (Gw (Ae U)):=⟨_,rfl⟩
   rw[<-hW4] at hcp
   have HR4:Hid (Aq W4 br (put (List.replicate (N+1) 0) 0 (Ae U))):=by
    unfold Hid;rw[hW4];exact Aq.setCells (Ae U) HR3.out (by simp;exact HKU.out)
   have HD4:Hid (Bf W4 bd (bd+1) (.slice (some ⟨bd,od,none⟩) M cd) D):=by
    unfold Hid;rw[hW4]
    refine⟨HD3.out.1.keep λb o h1 h2=>?_,HD3.out.2⟩
    exact World.cell?_of_block (a:=⟨b,o,none⟩) (Es (show b≠br by omega) _ _ _)
   have hz4:W4.heap.size=w3.heap.size:=by rw[hW4];exact Ie _ _ _ _
   have HB14:Hid (Below w1.heap.size w1 W4):=by unfold Hid;rw[hW4];exact Hi hbr _ _ HB13.out
   clear hW4 HR3 HD3 HB13 HU3
   obtain⟨Lq,hLq⟩:∃Lq,Lq=N+1-M:=⟨_,rfl⟩
   have hLqi:(N:Int)+1-(M:Int)=(Lq:Int):=by omega
   have hmk:=Iz Lq ω W4
   obtain⟨W5,hW5⟩:∃W5,W5=W4.alloc (.cells (Ld (List.replicate Lq 0)) 92):=⟨_,rfl⟩
   rw[<-hW5] at hmk
   obtain⟨bq,hbq⟩:∃bq,bq=W4.heap.size:=⟨_,rfl⟩
   rw[<-hbq] at hmk
   obtain⟨R0,hR0⟩:∃R0,R0=put (List.replicate (N+1) 0) 0 (Ae U):=⟨_,rfl⟩
   rw[<-hR0] at HR4
   have hR0l:R0.length=N+1:=by rw[hR0,Ju (by simp;exact HKU.out)];simp
   have hR0v:val R0=U:=by
    have:=iC (ls:=List.replicate (N+1) 0) (xs:=Ae U) (j:=0) (by simp;exact HKU.out)
    rw[List.drop_zero,List.take_replicate,Rd,Rd,Bt,Nat.pow_zero,<-hR0] at this
    omega
   have HJ0:Hid (nW w1 N M D U br bq (.slice (some ⟨bd,od,none⟩) M cd) bd Lq (List.replicate Lq 0) R0 W5):=by
    refine⟨by rw[hW5];exact HR4.out.alloc _,by rw[hW5,hbq];exact Aq.made _ _ _,by rw[hW5];exact HD4.out.below (Ψ.alloc ω _),by rw[hW5];simp;omega,by rw[hW5];exact HB14.out.alloc HB14.out.size _,⟨Hp.zeros _,?_,?_,?_,?_⟩,hR0l,by simp[hLq]⟩
    · rw[hR0];exact iB (Hp.zeros _) (Cb _)
    · rw[Rd,hR0v,Nat.zero_mul,Nat.zero_add]
    · rw[hR0v,hLq];exact HQS.out.1
    · intro t _;exact Pw _ _
   have hqr:bq≠br:=by omega
   have hqd:bq≠bd:=by omega
   have HBQ:Hid (w1.heap.size<=bq):=by unfold Hid;rw[hbq];exact HB14.out.size
   have hLqn:Lq+M=N+1:=by omega
   clear hR0 hR0l hR0v hLq hbq hW5 HR4 HD4 HB14 hz4 hz3
   go_wp2_with (rw[hcp])
   clear hcp hmk gm
   go_loopw [13,14,15,16,17] (λjv _ _ _ _ wr=>∃(i:Nat) (qs ls:List Nat),i<=Lq/\jv= .int .i64 ((i:Int)-1)/\Hid (nW w1 N M D U br bq (.slice (some ⟨bd,od,none⟩) M cd) bd i qs ls wr)) (λjv _ _ _ _ _=>(intOf jv+1).toNat)
   case atStart=>exact⟨Lq,_,_,Nat.le_refl _,rfl,HJ0⟩
   case round=>
    obtain⟨i,qs,ls,hi,rfl,HJ⟩:=hrel
    clear HJ0
    have HLL:Hid (ls.length=N+1):=HJ.out.rl
    have HQL:Hid (qs.length=N+1-M):=HJ.out.ql
    by_cases hi0:i=0
    ·
     subst hi0
     have HV:=Δ HJ.out.j.fin
     have hbw:=HJ.out.below
     have HT1:=Δ (yS HJ.out.q HJ.out.j.qdig (j:=0) (n:=Lq) (c:=Lq) (m:=n/m) (by rw[HQL.out];omega) ω ζ (by rw[List.drop_zero,List.take_of_length_le (by rw[HQL.out];omega),HV.out.1,HSC.out.1]))
     have HT2:=Δ (Qq HJ.out.r HJ.out.j.ldig (j:=0) (n:=N+1) (c:=N+1) (m:=U%D) (by rw[HLL.out];omega) ω ζ (by rw[List.drop_zero,List.take_of_length_le (by rw[HLL.out];omega)];exact HV.out.2))
     have HUD:Hid ((Ae (U%D)).length<=N+1):=Nat.le_trans (Fg (Nat.mod_le _ _)) HKU.out
     have HSR:Hid (∀v,Bf wr 0 wr.heap.size v (U%D)->Calls Tryz.prog 187 #[v,.int .i64 (b:Int)] wr (Ek wr (n%m))):=λv hv=>by
      rw[<-HSC.out.2]
      exact Agp (U%D) b v 0 wr.heap.size wr hv ζ (by have:=HUD.out;omega) ω
     have HBW:=Δ hbw
     clear HJ hbw
     go_wp2_with fail
     refine HT1.out.mono ?_
     rintro e wz ⟨vq,rfl,hq,rfl⟩
     have HQ:=Δ hq
     clear hq
     go_wp2_with fail
     refine HT2.out.mono ?_
     rintro e wz ⟨vr,rfl,hr,rfl⟩
     have HR':=Δ (HSR.out vr hr)
     clear hr
     go_wp2_with fail
     refine HR'.out.mono ?_
     rintro e wz ⟨vs,rfl,hs,hbz⟩
     have HS:=Δ hs
     have HBZ:=Δ hbz
     clear hs hbz
     go_wp2_with fail
     go_ret2
     have hszr:=HBW.out.size
     have hbqs:=HBQ.out
     exact⟨_,_,rfl,HQ.out.upL ζ HBZ.out ω,.inr (HS.out.more ω ζ),hb1.trans ((HBW.out.trans (HBZ.out.mono HBW.out.size)).mono ω)⟩
    ·
     obtain⟨j,rfl⟩:∃j,i=j+1:=⟨i-1,ω⟩
     have hjs:((j+1:Nat):Int)-1=(j:Int):=by omega
     rw[hjs]
     have hj0:(0:Int)<=(j:Int):=by omega
     clear hjs hi0
     have hjM:j+M<N+1:=by omega
     obtain⟨W,HW⟩:∃W,Hid (W=val ls/Bw^j):=⟨_,rfl⟩
     have hDk:D<Bw^M:=by rw[<-HK.out];exact Qc
     have HDK:=Δ hDk
     have hwv:=Xg HJ.out.j.ldig HJ.out.j.lt hDk
     have hge:=Ack HJ.out.j.ldig HJ.out.j.lt HK.out hMp
     have hmax:=dN HJ.out.j.ldig HJ.out.j.lt hDk
     rw[<-HW.out] at hwv hge hmax
     have HWV:=Δ hwv
     have HGE:=Δ hge
     have HMAX:=Δ hmax
     have gt:wr.cell? ⟨br,j+M,none⟩=some (.int .u64 (dg ls (j+M):Int)):=HJ.out.r.cell (by rw[HLL.out];exact hjM)
     have gn:wr.cell? ⟨br,j+(M-1),none⟩=some (.int .u64 (dg ls (j+(M-1)):Int)):=HJ.out.r.cell (by rw[HLL.out];omega)
     have gd:wr.cell? ⟨bd,od+(M-1),none⟩=some (.int .u64 (dg (Ae D) (M-1):Int)):=by
      rcases HJ.out.d.1.2 with⟨_,_,_,h0⟩|⟨_,_,_,e,_,hc⟩
      · rw[HK.out] at h0;omega
      · cases e;exact hc _ _ (Ct _ _ (by rw[HK.out];omega))
     have htl:=Hj HJ.out.j.ldig (j+M)
     have hnl:=Hj HJ.out.j.ldig (j+(M-1))
     have hdl:=Hj (Cb D) (M-1)
     have HDIV:Hid (dg ls (j+M)<dg (Ae D) (M-1)->∀wz,Calls Tryz.prog 186 _ wz _):=λh wz=>cZ _ _ _ h hdl hnl wz
     have HFIT:Hid (dg ls (j+M)<dg (Ae D) (M-1)->_):=λh=>Uq h hnl
     generalize dg ls (j+M)=tp at*
     generalize dg ls (j+(M-1))=nx at*
     generalize dg (Ae D) (M-1)=dt at*
     clear hwv hge hmax hDk htl hnl hdl
     have hjMi:(j:Int)+(M:Int)<(N:Int)+1:=by omega
     have hM1i:(M:Int)-1<(M:Int):=by omega
     have hM1:(M:Int)-1=((M-1:Nat):Int):=by omega
     by_cases hlt2:tp<dt
     ·
      have hlti:(tp:Int)<(dt:Int):=by omega
      have HDV:=Δ (HDIV.out hlt2)
      have HFT:=Δ (HFIT.out hlt2)
      clear HDIV HFIT hlt2
      obtain⟨g,HG⟩:∃g,Hid (g=(tp*Bw+nx)/dt):=⟨_,rfl⟩
      obtain⟨gr,HGR⟩:∃g,Hid (g=(tp*Bw+nx)%dt):=⟨_,rfl⟩
      rw[<-HG.out] at HGE HFT HDV
      rw[<-HGR.out] at HDV
      obtain⟨t0,ht0⟩:∃t0,t0=j+M:=⟨_,rfl⟩
      obtain⟨t1,ht1⟩:∃t1,t1=j+(M-1):=⟨_,rfl⟩
      go_wp2_with fail
      go_region
      obtain⟨wd,hwd⟩:∃wd,wd=wr.drew:=⟨_,rfl⟩
      rw[<-hwd]
      have HJD:Hid (nW w1 N M D U br bq (.slice (some ⟨bd,od,none⟩) M cd) bd (j+1) qs ls wd):=by
       rw[hwd];exact⟨HJ.out.r.drew,HJ.out.q.drew,HJ.out.d.drewN 1,HJ.out.hd,HJ.out.below.drew,HJ.out.j,HJ.out.rl,HJ.out.ql⟩
      have gt':wd.cell? ⟨br,t0,none⟩=some (.int .u64 (tp:Int)):=by rw[hwd,ht0];exact gt
      have gn':wd.cell? ⟨br,t1,none⟩=some (.int .u64 (nx:Int)):=by rw[hwd,ht1];exact gn
      have gd':wd.cell? ⟨bd,od+(M-1),none⟩=some (.int .u64 (dt:Int)):=by rw[hwd];exact gd
      have hjw:IntKind.i64.wrap ((j:Int)+(M:Int))=(t0:Int):=by rw[ht0];rw[IntWalk.i64_in _ ω];omega
      have hjw1:IntKind.i64.wrap ((t0:Int)-1)=(t1:Int):=by rw[ht0,ht1];rw[IntWalk.i64_in _ ω];omega
      have hmw1:IntKind.i64.wrap ((M:Int)-1)=((M-1:Nat):Int):=by rw[IntWalk.i64_in _ ω];omega
      have h0i:(t0:Int)<(N:Int)+1:=by omega
      have h1i:(t1:Int)<(N:Int)+1:=by omega
      have HT0:=Δ ht0
      clear hwd gt gn gd HJ ht0 ht1
      go_wp2_with fail
      go_quiet (first|exact Calls.quiet_of (HDV.out _)|(trace_state;fail))
      obtain⟨w6,hw6⟩:∃w6,w6=wd.drewN nq:=⟨_,rfl⟩
      rw[<-hw6]
      have HJ6:Hid (nW w1 N M D U br bq (.slice (some ⟨bd,od,none⟩) M cd) bd (j+1) qs ls w6):=by
       rw[hw6];exact⟨HJD.out.r.drewN nq,HJD.out.q.drewN nq,HJD.out.d.drewN nq,HJD.out.hd,Ke HJD.out.below nq,HJD.out.j,HJD.out.rl,HJD.out.ql⟩
      clear hw6 HJD gt' gn' gd' HDV HG HGR
      have hgB:g<Bw:=HFT.out
      have HGB:=Δ hgB
      clear hgB HFT
      have hs1:(j:Int)<=(t0:Int)+1:=by have:=HT0.out;omega
      have hs2:(t0:Int)+1<=(N:Int)+1:=by have:=HT0.out;omega
      have hwl:t0+1-j=M+1:=by have:=HT0.out;omega
      have hwl2:(t0:Int)+1-(j:Int)=(M:Int)+1:=by have:=HT0.out;omega
      have HTR:=Δ (λt=>aO w6 g HGB.out t)
      go_wp2_with fail
      refine(HTR.out _).mono ?_
      rintro e w7 ⟨vg,rfl,hvg,hb67⟩
      have HVG:=Δ hvg
      clear hvg HTR
      have HMUL:=Δ (gH D g (.slice (some ⟨bd,od,none⟩) M cd) vg bd (bd+1) w6.heap.size w7.heap.size w7 (HJ6.out.d.below (hb67.mono HJ6.out.hd)) HVG.out (Nat.lt_of_lt_of_le HJ6.out.hd hb67.size) ζ (by rw[HK.out];omega) (by
       have:=Co (n:=g) (k:=1) (by rw[Nat.pow_one];exact HGB.out)
       omega))
      go_wp2_with fail
      refine HMUL.out.mono ?_
      rintro e w8 ⟨vp,rfl,hvp,hb78⟩
      have HI0:Hid (vK w6 D W g vp w8):=⟨HGE.out,HGB.out,by rw[Nat.mul_comm];exact hvp.more Ω ζ,hb67.trans (hb78.mono hb67.size)⟩
      have HWN:Hid (val ((ls.drop j).take (M+1))=W):=HWV.out.1
      clear hvp hb78 hb67 HMUL HVG HGE HGB hs1 hs2 hwl hwl2
      go_wp2_with fail
      go_loopw [14,16] (λgv pv wq=>∃g:Nat,gv= .int .u64 (g:Int)/\Hid (vK w6 D W g pv wq)) (λgv _ _=>(intOf gv).toNat)
      case atStart=>exact⟨g,rfl,HI0⟩
      case round=>
       obtain⟨gq,rfl,HI⟩:=hrel
       clear HI0
       obtain⟨pv,hpv⟩:∃pv,pv=u16:=⟨_,rfl⟩
       rw[<-hpv] at HI ⊢
       clear hpv
       have hbq:=HI.out.below
       have HRQ:Hid (Aq wr br ls):=HJ6.out.r.below hbq HJ6.out.r.lt
       have HTW:=Δ (Qq HRQ.out HJ6.out.j.ldig (j:=j) (n:=M+1) (c:=N+1-j) (m:=W) (by rw[HLL.out];omega) ω ω HWN.out)
       have HGD:Hid ((Ae (gq*D)).length<=M+1):=by
        apply Co
        rw[Nat.pow_succ,Nat.mul_comm]
        exact Nat.mul_lt_mul'' HDK.out HI.out.lt
       have HWD:Hid ((Ae W).length<=M+1):=by
        apply Co
        rw[Nat.pow_succ]
        exact Nat.lt_of_lt_of_le HWV.out.2 (Nat.mul_le_mul_right _ (Nat.le_of_lt HDK.out))
       have HBQ6:=Δ hbq
       clear hbq
       go_wp2_with fail
       refine HTW.out.mono ?_
       rintro e w' ⟨vw,rfl,hvw,rfl⟩
       have HVW:=Δ hvw
       clear hvw
       have HCM:=Δ (Pu W (gq*D) vw pv 0 wr.heap.size 0 wr.heap.size wr HVW.out HI.out.part (by have:=HWD.out;omega) (by have:=HGD.out;omega))
       go_wp2_with fail
       refine HCM.out.mono ?_
       rintro e w' ⟨r2,q2,rfl,hw9,HR2⟩
       obtain⟨w9,hw9'⟩:∃w9,w9=wr.drewN q2:=⟨_,rfl⟩
       rw[<-hw9'] at hw9
       subst hw9
       have HB9:Hid (Below wr.heap.size wr w'):=by rw[hw9'];exact Ke Ψ q2
       have hz9:w'.heap.size=wr.heap.size:=by rw[hw9'];simp
       have HVW9:Hid (Bf w' 0 w'.heap.size vw W):=by rw[hz9,hw9'];exact HVW.out.drewN q2
       have HP9:Hid (Bf w' 0 w'.heap.size pv (gq*D)):=by rw[hz9,hw9'];exact HI.out.part.drewN q2
       have HB69:Hid (Below w6.heap.size w6 w'):=HBQ6.out.trans (HB9.out.mono HBQ6.out.size)
       have HD9:Hid (Bf w' bd (bd+1) (.slice (some ⟨bd,od,none⟩) M cd) D):=HJ6.out.d.below (HB69.out.mono HJ6.out.hd)
       have hbd9:bd<w'.heap.size:=Nat.lt_of_lt_of_le HJ6.out.hd HB69.out.size
       have HR9:Hid (Aq w' br ls):=HJ6.out.r.below HB69.out HJ6.out.r.lt
       clear hw9'
       by_cases hr2:r2<0
       ·
        have hlt3:W<gq*D:=HR2.lt.1 hr2
        have HGM:Hid (0<gq/\W/D<=gq-1):=by
         have:W/D<gq:=Nat.div_lt_of_lt_mul (by rw[Nat.mul_comm];exact hlt3)
         exact⟨Nat.lt_of_le_of_lt Ω this,Nat.le_pred_of_lt this⟩
        have HSUB:=Δ (Ub (gq*D) D pv (.slice (some ⟨bd,od,none⟩) M cd) 0 w'.heap.size bd (bd+1) w' HP9.out HD9.out ζ hbd9 (by have:=HGD.out;omega) (Nat.le_mul_of_pos_left _ HGM.out.1))
        obtain⟨gp,hgp⟩:∃gp,gp=gq-1:=⟨_,rfl⟩
        have hgw:IntKind.u64.wrap ((gq:Int)-1)=(gp:Int):=by rw[hgp];exact Lj HI.out.lt HGM.out.1
        have hgpl:gp<gq:=by have:=HGM.out.1;omega
        have HNX:Hid (∀v w2,Bf w2 w'.heap.size w2.heap.size v (gq*D-D)->Below w'.heap.size w' w2->vK w6 D W gp v w2):=λv w2 h1 h2=>by
         refine⟨by rw[hgp];exact HGM.out.2,Nat.lt_trans hgpl HI.out.lt,?_,HB69.out.trans (h2.mono HB69.out.size)⟩
         have e:gp*D=gq*D-D:=by rw[hgp,Nat.sub_mul,Nat.one_mul]
         rw[e];exact h1.more Ω ζ
        clear hgp hlt3 HR2
        go_wp2_with fail
        refine HSUB.out.mono ?_
        rintro e w10 ⟨v10,rfl,hv10,hb10⟩
        have HN10:=Δ (HNX.out v10 w10 hv10 hb10)
        clear hv10 hb10
        go_wp2_with fail
        exact⟨⟨gp,rfl,HN10⟩,by simp only[intOf];omega⟩
       ·
        have hge3:¬W<gq*D:=λh=>hr2 (HR2.lt.2 h)
        have HGE2:Hid (gq=W/D):=by
         refine Nat.le_antisymm ?_ HI.out.ge
         rw[Nat.le_div_iff_mul_le HDN.out];omega
        have HTW9:=Δ (Qq HR9.out HJ6.out.j.ldig (j:=j) (n:=M+1) (c:=N+1-j) (m:=W) (by rw[HLL.out];omega) ω ω HWN.out)
        have HGLE:Hid (gq*D<=W):=by unfold Hid;omega
        clear hge3 HR2 HTW HCM HVW HVW9
        go_wp2_with fail
        refine HTW9.out.mono ?_
        rintro e wz ⟨vw2,rfl,hvw2,rfl⟩
        have HSUB:=Δ (Ub W (gq*D) vw2 pv 0 w'.heap.size 0 w'.heap.size w' hvw2 HP9.out ζ ζ (by have:=HWD.out;omega) HGLE.out)
        clear hvw2
        go_wp2_with fail
        refine HSUB.out.mono ?_
        rintro e w10 ⟨vl,rfl,hvl,hb10⟩
        obtain⟨Z,HZ⟩:∃Z,Hid (Z=W-gq*D):=⟨_,rfl⟩
        rw[<-HZ.out] at hvl
        have hz10:=hb10.size
        have hz69:=HB69.out.size
        have hbr6:=HJ6.out.r.lt
        have hbq6:=HJ6.out.q.lt
        have hbd6:=HJ6.out.hd
        have HB610:Hid (Below w6.heap.size w6 w10):=HB69.out.trans (hb10.mono hz69)
        have HR10:Hid (Aq w10 br ls):=HJ6.out.r.below HB610.out hbr6
        have HQ10:Hid (Aq w10 bq qs):=HJ6.out.q.below HB610.out hbq6
        have HD10:Hid (Bf w10 bd (bd+1) (.slice (some ⟨bd,od,none⟩) M cd) D):=HJ6.out.d.below (HB610.out.mono hbd6)
        have HZL:Hid ((Ae Z).length<=M+1):=by
         unfold Hid
         rw[HZ.out]
         exact Nat.le_trans (Fg (Nat.sub_le _ _)) HWD.out
        have hcl:=λty=>Nw w10 ty br j (M+1) (N+1-j) ls HR10.out (by rw[HLL.out];omega) ω
        obtain⟨w11,hw11⟩:∃w11,w11=w10.setCells br j (Gw (List.replicate (M+1) 0)):=⟨_,rfl⟩
        rw[<-hw11] at hcl
        have HR11:Hid (Aq w11 br (put ls j (List.replicate (M+1) 0))):=by
         unfold Hid;rw[hw11];exact Aq.setCells _ HR10.out (by simp;rw[HLL.out];omega)
        have HVL11:Hid (Bf w11 w'.heap.size w10.heap.size vl Z):=by
         unfold Hid;rw[hw11]
         refine⟨hvl.1.keep λb o h1 h2=>?_,hvl.2⟩
         exact World.cell?_of_block (a:=⟨b,o,none⟩) (Es (show b≠br by omega) _ _ _)
        have HQ11:Hid (Aq w11 bq qs):=by unfold Hid;rw[hw11];exact Aq.otherCells hqr _ _ HQ10.out
        have HD11:Hid (Bf w11 bd (bd+1) (.slice (some ⟨bd,od,none⟩) M cd) D):=by
         unfold Hid;rw[hw11]
         refine⟨HD10.out.1.keep λb o h1 h2=>?_,HD10.out.2⟩
         exact World.cell?_of_block (a:=⟨b,o,none⟩) (Es (show b≠br by omega) _ _ _)
        have HB11:Hid (Below w1.heap.size w1 w11):=by
         unfold Hid;rw[hw11];exact Hi hbr _ _ (HJ6.out.below.trans (HB610.out.mono HJ6.out.below.size))
        have hz11:w11.heap.size=w10.heap.size:=by rw[hw11];exact Ie _ _ _ _
        have hpl:(put ls j (List.replicate (M+1) 0)).length=N+1:=by rw[Ju (by simp;rw[HLL.out];omega)];exact HLL.out
        have hcp:=λty=>Kl w11 ty br j (M+1) (N+1-j) _ HR11.out (by rw[hpl];omega) vl Z _ _ HVL11.out HZL.out
        obtain⟨w12,hw12⟩:∃w12,w12=w11.setCells br j (Gw (Ae Z)):=⟨_,rfl⟩
        rw[<-hw12] at hcp
        obtain⟨l2,HL2⟩:∃l2,Hid (l2=put (put ls j (List.replicate (M+1) 0)) j (Ae Z)):=⟨_,rfl⟩
        have HR12:Hid (Aq w12 br l2):=by
         unfold Hid;rw[hw12,HL2.out];exact Aq.setCells _ HR11.out (by rw[hpl];have:=HZL.out;omega)
        have HQ12:Hid (Aq w12 bq qs):=by unfold Hid;rw[hw12];exact Aq.otherCells hqr _ _ HQ11.out
        have HD12:Hid (Bf w12 bd (bd+1) (.slice (some ⟨bd,od,none⟩) M cd) D):=by
         unfold Hid;rw[hw12]
         refine⟨HD11.out.1.keep λb o h1 h2=>?_,HD11.out.2⟩
         exact World.cell?_of_block (a:=⟨b,o,none⟩) (Es (show b≠br by omega) _ _ _)
        have HB12:Hid (Below w1.heap.size w1 w12):=by unfold Hid;rw[hw12];exact Hi hbr _ _ HB11.out
        have hz12:w12.heap.size=w10.heap.size:=by rw[hw12,Ie];exact hz11
        have HJN:Hid (nW w1 N M D U br bq (.slice (some ⟨bd,od,none⟩) M cd) bd j (qs.set j gq) l2 (w12.setCell ⟨bq,j,none⟩ (.int .u64 (gq:Int)))):=by
         refine⟨HR12.out.other ⟨bq,j,none⟩ _ (Ne.symm hqr),HQ12.out.set j gq,⟨HD12.out.1.set ⟨bq,j,none⟩ _ (show bq<bd\/bd+1<=bq by omega),HD12.out.2⟩,by simp[World.setCell];omega,HB12.out.setCell HBQ.out _,?_,?_,by rw[List.length_set];exact HQL.out⟩
         ·
          rw[HL2.out,HZ.out,HW.out]
          refine HJ6.out.j.step HDK.out (by rw[HQL.out];omega) (by rw[HLL.out];omega) ?_
          rw[<-HW.out];exact HGE2.out
         · rw[HL2.out,Ju (by rw[hpl];have:=HZL.out;omega),hpl]
        have gq12:w12.cell? ⟨bq,j,none⟩=some (.int .u64 (dg qs j:Int)):=HQ12.out.cell (by rw[HQL.out];omega)
        have gqf:=HQ12.out.frozen j
        have hjLq:(j:Int)<(Lq:Int):=by omega
        generalize dg qs j=dq at*
        clear hw11 hw12 hpl hvl hb10 HSUB HTW9
        go_wp2_with (first|rw[hcl]|rw[hcp])
        exact⟨⟨j,_,_,ω,rfl,HJN⟩,by simp only[intOf];omega⟩
     ·
      have hlti:¬(tp:Int)<(dt:Int):=by omega
      obtain⟨t0,ht0⟩:∃t0,t0=j+M:=⟨_,rfl⟩
      have HT0:=Δ ht0
      clear ht0 HDIV HFIT HGE
      go_wp2_with fail
      go_region
      obtain⟨w6,hw6⟩:∃wd,wd=wr.drew:=⟨_,rfl⟩
      rw[<-hw6]
      have HJ6:Hid (nW w1 N M D U br bq (.slice (some ⟨bd,od,none⟩) M cd) bd (j+1) qs ls w6):=by
       rw[hw6];exact⟨HJ.out.r.drew,HJ.out.q.drew,HJ.out.d.drewN 1,HJ.out.hd,HJ.out.below.drew,HJ.out.j,HJ.out.rl,HJ.out.ql⟩
      have hjw:IntKind.i64.wrap ((j:Int)+(M:Int))=(t0:Int):=by rw[HT0.out];rw[IntWalk.i64_in _ ω];omega
      clear hw6 HJ gt gn gd
      obtain⟨g,HG⟩:∃g,Hid (g=Bw-1):=⟨_,rfl⟩
      have HGB:Hid (g<Bw):=by unfold Hid;rw[HG.out];have:=Xr;omega
      have HGE:Hid (W/D<=g):=by rw[HG.out];exact HMAX.out
      obtain⟨G,hG⟩:∃G:Int,G=(g:Int):=⟨_,rfl⟩
      have HGL:Hid ((18446744073709551615:Int)=G):=by rw[hG];exact AfA HG.out
      generalize (18446744073709551615:Int)=GL at*
      have hgl:=HGL.out
      subst hgl
      rw[hG]
      clear HG HGL hG
      have hs1:(j:Int)<=(t0:Int)+1:=by have:=HT0.out;omega
      have hs2:(t0:Int)+1<=(N:Int)+1:=by have:=HT0.out;omega
      have hwl:t0+1-j=M+1:=by have:=HT0.out;omega
      have hwl2:(t0:Int)+1-(j:Int)=(M:Int)+1:=by have:=HT0.out;omega
      have HTR:=Δ (λt=>aO w6 g HGB.out t)
      go_wp2_with fail
      refine(HTR.out _).mono ?_
      rintro e w7 ⟨vg,rfl,hvg,hb67⟩
      have HVG:=Δ hvg
      clear hvg HTR
      have HMUL:=Δ (gH D g (.slice (some ⟨bd,od,none⟩) M cd) vg bd (bd+1) w6.heap.size w7.heap.size w7 (HJ6.out.d.below (hb67.mono HJ6.out.hd)) HVG.out (Nat.lt_of_lt_of_le HJ6.out.hd hb67.size) ζ (by rw[HK.out];omega) (by
       have:=Co (n:=g) (k:=1) (by rw[Nat.pow_one];exact HGB.out)
       omega))
      go_wp2_with fail
      refine HMUL.out.mono ?_
      rintro e w8 ⟨vp,rfl,hvp,hb78⟩
      have HI0:Hid (vK w6 D W g vp w8):=⟨HGE.out,HGB.out,by rw[Nat.mul_comm];exact hvp.more Ω ζ,hb67.trans (hb78.mono hb67.size)⟩
      have HWN:Hid (val ((ls.drop j).take (M+1))=W):=HWV.out.1
      clear hvp hb78 hb67 HMUL HVG HGE HGB hs1 hs2 hwl hwl2
      go_wp2_with fail
      go_loopw [14,16] (λgv pv wq=>∃g:Nat,gv= .int .u64 (g:Int)/\Hid (vK w6 D W g pv wq)) (λgv _ _=>(intOf gv).toNat)
      case atStart=>exact⟨g,rfl,HI0⟩
      case round=>
       obtain⟨gq,rfl,HI⟩:=hrel
       clear HI0
       obtain⟨pv,hpv⟩:∃pv,pv=u16:=⟨_,rfl⟩
       rw[<-hpv] at HI ⊢
       clear hpv
       have hbq:=HI.out.below
       have HRQ:Hid (Aq wr br ls):=HJ6.out.r.below hbq HJ6.out.r.lt
       have HTW:=Δ (Qq HRQ.out HJ6.out.j.ldig (j:=j) (n:=M+1) (c:=N+1-j) (m:=W) (by rw[HLL.out];omega) ω ω HWN.out)
       have HGD:Hid ((Ae (gq*D)).length<=M+1):=by
        apply Co
        rw[Nat.pow_succ,Nat.mul_comm]
        exact Nat.mul_lt_mul'' HDK.out HI.out.lt
       have HWD:Hid ((Ae W).length<=M+1):=by
        apply Co
        rw[Nat.pow_succ]
        exact Nat.lt_of_lt_of_le HWV.out.2 (Nat.mul_le_mul_right _ (Nat.le_of_lt HDK.out))
       have HBQ6:=Δ hbq
       clear hbq
       go_wp2_with fail
       refine HTW.out.mono ?_
       rintro e w' ⟨vw,rfl,hvw,rfl⟩
       have HVW:=Δ hvw
       clear hvw
       have HCM:=Δ (Pu W (gq*D) vw pv 0 wr.heap.size 0 wr.heap.size wr HVW.out HI.out.part (by have:=HWD.out;omega) (by have:=HGD.out;omega))
       go_wp2_with fail
       refine HCM.out.mono ?_
       rintro e w' ⟨r2,q2,rfl,hw9,HR2⟩
       obtain⟨w9,hw9'⟩:∃w9,w9=wr.drewN q2:=⟨_,rfl⟩
       rw[<-hw9'] at hw9
       subst hw9
       have HB9:Hid (Below wr.heap.size wr w'):=by rw[hw9'];exact Ke Ψ q2
       have hz9:w'.heap.size=wr.heap.size:=by rw[hw9'];simp
       have HVW9:Hid (Bf w' 0 w'.heap.size vw W):=by rw[hz9,hw9'];exact HVW.out.drewN q2
       have HP9:Hid (Bf w' 0 w'.heap.size pv (gq*D)):=by rw[hz9,hw9'];exact HI.out.part.drewN q2
       have HB69:Hid (Below w6.heap.size w6 w'):=HBQ6.out.trans (HB9.out.mono HBQ6.out.size)
       have HD9:Hid (Bf w' bd (bd+1) (.slice (some ⟨bd,od,none⟩) M cd) D):=HJ6.out.d.below (HB69.out.mono HJ6.out.hd)
       have hbd9:bd<w'.heap.size:=Nat.lt_of_lt_of_le HJ6.out.hd HB69.out.size
       have HR9:Hid (Aq w' br ls):=HJ6.out.r.below HB69.out HJ6.out.r.lt
       clear hw9'
       by_cases hr2:r2<0
       ·
        have hlt3:W<gq*D:=HR2.lt.1 hr2
        have HGM:Hid (0<gq/\W/D<=gq-1):=by
         have:W/D<gq:=Nat.div_lt_of_lt_mul (by rw[Nat.mul_comm];exact hlt3)
         exact⟨Nat.lt_of_le_of_lt Ω this,Nat.le_pred_of_lt this⟩
        have HSUB:=Δ (Ub (gq*D) D pv (.slice (some ⟨bd,od,none⟩) M cd) 0 w'.heap.size bd (bd+1) w' HP9.out HD9.out ζ hbd9 (by have:=HGD.out;omega) (Nat.le_mul_of_pos_left _ HGM.out.1))
        obtain⟨gp,hgp⟩:∃gp,gp=gq-1:=⟨_,rfl⟩
        have hgw:IntKind.u64.wrap ((gq:Int)-1)=(gp:Int):=by rw[hgp];exact Lj HI.out.lt HGM.out.1
        have hgpl:gp<gq:=by have:=HGM.out.1;omega
        have HNX:Hid (∀v w2,Bf w2 w'.heap.size w2.heap.size v (gq*D-D)->Below w'.heap.size w' w2->vK w6 D W gp v w2):=λv w2 h1 h2=>by
         refine⟨by rw[hgp];exact HGM.out.2,Nat.lt_trans hgpl HI.out.lt,?_,HB69.out.trans (h2.mono HB69.out.size)⟩
         have e:gp*D=gq*D-D:=by rw[hgp,Nat.sub_mul,Nat.one_mul]
         rw[e];exact h1.more Ω ζ
        clear hgp hlt3 HR2
        go_wp2_with fail
        refine HSUB.out.mono ?_
        rintro e w10 ⟨v10,rfl,hv10,hb10⟩
        have HN10:=Δ (HNX.out v10 w10 hv10 hb10)
        clear hv10 hb10
        go_wp2_with fail
        exact⟨⟨gp,rfl,HN10⟩,by simp only[intOf];omega⟩
       ·
        have hge3:¬W<gq*D:=λh=>hr2 (HR2.lt.2 h)
        have HGE2:Hid (gq=W/D):=by
         refine Nat.le_antisymm ?_ HI.out.ge
         rw[Nat.le_div_iff_mul_le HDN.out];omega
        have HTW9:=Δ (Qq HR9.out HJ6.out.j.ldig (j:=j) (n:=M+1) (c:=N+1-j) (m:=W) (by rw[HLL.out];omega) ω ω HWN.out)
        have HGLE:Hid (gq*D<=W):=by unfold Hid;omega
        clear hge3 HR2 HTW HCM HVW HVW9
        go_wp2_with fail
        refine HTW9.out.mono ?_
        rintro e wz ⟨vw2,rfl,hvw2,rfl⟩
        have HSUB:=Δ (Ub W (gq*D) vw2 pv 0 w'.heap.size 0 w'.heap.size w' hvw2 HP9.out ζ ζ (by have:=HWD.out;omega) HGLE.out)
        clear hvw2
        go_wp2_with fail
        refine HSUB.out.mono ?_
        rintro e w10 ⟨vl,rfl,hvl,hb10⟩
        obtain⟨Z,HZ⟩:∃Z,Hid (Z=W-gq*D):=⟨_,rfl⟩
        rw[<-HZ.out] at hvl
        have hz10:=hb10.size
        have hz69:=HB69.out.size
        have hbr6:=HJ6.out.r.lt
        have hbq6:=HJ6.out.q.lt
        have hbd6:=HJ6.out.hd
        have HB610:Hid (Below w6.heap.size w6 w10):=HB69.out.trans (hb10.mono hz69)
        have HR10:Hid (Aq w10 br ls):=HJ6.out.r.below HB610.out hbr6
        have HQ10:Hid (Aq w10 bq qs):=HJ6.out.q.below HB610.out hbq6
        have HD10:Hid (Bf w10 bd (bd+1) (.slice (some ⟨bd,od,none⟩) M cd) D):=HJ6.out.d.below (HB610.out.mono hbd6)
        have HZL:Hid ((Ae Z).length<=M+1):=by
         unfold Hid
         rw[HZ.out]
         exact Nat.le_trans (Fg (Nat.sub_le _ _)) HWD.out
        have hcl:=λty=>Nw w10 ty br j (M+1) (N+1-j) ls HR10.out (by rw[HLL.out];omega) ω
        obtain⟨w11,hw11⟩:∃w11,w11=w10.setCells br j (Gw (List.replicate (M+1) 0)):=⟨_,rfl⟩
        rw[<-hw11] at hcl
        have HR11:Hid (Aq w11 br (put ls j (List.replicate (M+1) 0))):=by
         unfold Hid;rw[hw11];exact Aq.setCells _ HR10.out (by simp;rw[HLL.out];omega)
        have HVL11:Hid (Bf w11 w'.heap.size w10.heap.size vl Z):=by
         unfold Hid;rw[hw11]
         refine⟨hvl.1.keep λb o h1 h2=>?_,hvl.2⟩
         exact World.cell?_of_block (a:=⟨b,o,none⟩) (Es (show b≠br by omega) _ _ _)
        have HQ11:Hid (Aq w11 bq qs):=by unfold Hid;rw[hw11];exact Aq.otherCells hqr _ _ HQ10.out
        have HD11:Hid (Bf w11 bd (bd+1) (.slice (some ⟨bd,od,none⟩) M cd) D):=by
         unfold Hid;rw[hw11]
         refine⟨HD10.out.1.keep λb o h1 h2=>?_,HD10.out.2⟩
         exact World.cell?_of_block (a:=⟨b,o,none⟩) (Es (show b≠br by omega) _ _ _)
        have HB11:Hid (Below w1.heap.size w1 w11):=by
         unfold Hid;rw[hw11];exact Hi hbr _ _ (HJ6.out.below.trans (HB610.out.mono HJ6.out.below.size))
        have hz11:w11.heap.size=w10.heap.size:=by rw[hw11];exact Ie _ _ _ _
        have hpl:(put ls j (List.replicate (M+1) 0)).length=N+1:=by rw[Ju (by simp;rw[HLL.out];omega)];exact HLL.out
        have hcp:=λty=>Kl w11 ty br j (M+1) (N+1-j) _ HR11.out (by rw[hpl];omega) vl Z _ _ HVL11.out HZL.out
        obtain⟨w12,hw12⟩:∃w12,w12=w11.setCells br j (Gw (Ae Z)):=⟨_,rfl⟩
        rw[<-hw12] at hcp
        obtain⟨l2,HL2⟩:∃l2,Hid (l2=put (put ls j (List.replicate (M+1) 0)) j (Ae Z)):=⟨_,rfl⟩
        have HR12:Hid (Aq w12 br l2):=by
         unfold Hid;rw[hw12,HL2.out];exact Aq.setCells _ HR11.out (by rw[hpl];have:=HZL.out;omega)
        have HQ12:Hid (Aq w12 bq qs):=by unfold Hid;rw[hw12];exact Aq.otherCells hqr _ _ HQ11.out
        have HD12:Hid (Bf w12 bd (bd+1) (.slice (some ⟨bd,od,none⟩) M cd) D):=by
         unfold Hid;rw[hw12]
         refine⟨HD11.out.1.keep λb o h1 h2=>?_,HD11.out.2⟩
         exact World.cell?_of_block (a:=⟨b,o,none⟩) (Es (show b≠br by omega) _ _ _)
        have HB12:Hid (Below w1.heap.size w1 w12):=by unfold Hid;rw[hw12];exact Hi hbr _ _ HB11.out
        have hz12:w12.heap.size=w10.heap.size:=by rw[hw12,Ie];exact hz11
        have HJN:Hid (nW w1 N M D U br bq (.slice (some ⟨bd,od,none⟩) M cd) bd j (qs.set j gq) l2 (w12.setCell ⟨bq,j,none⟩ (.int .u64 (gq:Int)))):=by
         refine⟨HR12.out.other ⟨bq,j,none⟩ _ (Ne.symm hqr),HQ12.out.set j gq,⟨HD12.out.1.set ⟨bq,j,none⟩ _ (show bq<bd\/bd+1<=bq by omega),HD12.out.2⟩,by simp[World.setCell];omega,HB12.out.setCell HBQ.out _,?_,?_,by rw[List.length_set];exact HQL.out⟩
         ·
          rw[HL2.out,HZ.out,HW.out]
          refine HJ6.out.j.step HDK.out (by rw[HQL.out];omega) (by rw[HLL.out];omega) ?_
          rw[<-HW.out];exact HGE2.out
         · rw[HL2.out,Ju (by rw[hpl];have:=HZL.out;omega),hpl]
        have gq12:w12.cell? ⟨bq,j,none⟩=some (.int .u64 (dg qs j:Int)):=HQ12.out.cell (by rw[HQL.out];omega)
        have gqf:=HQ12.out.frozen j
        have hjLq:(j:Int)<(Lq:Int):=by omega
        generalize dg qs j=dq at*
        clear hw11 hw12 hpl hvl hb10 HSUB HTW9
        go_wp2_with (first|rw[hcl]|rw[hcp])
        exact⟨⟨j,_,_,ω,rfl,HJN⟩,by simp only[intOf];omega⟩
theorem AdX (w:World):(sizeOf 92).run Tryz.prog w= .ok 1 w:=κ
def Bq (z:Nat):ByteArray:=⟨(be z).toArray⟩
theorem jQ (z:Nat):(Bq z).size=(be z).length:=by simp[Bq,ByteArray.size]
structure AaF (w:World) (z L i:Nat) (ls:List Nat) (wr:World):Prop where
 row:Aq wr w.heap.size ls
 below:Below w.heap.size w wr
 len:ls.length=(Ae z).length
 dig:Hp ls
 sum:val ls=z/256^(L-i)*256^(L-i)
theorem Ac1 (z L:Nat) (w:World) (hL:L=(be z).length) (hl:L<=400000):Calls Tryz.prog 102 #[.string (Bq z)] w (Ek w z):=by
 have hll:=Tl z
 rw[<-hL] at hll
 obtain⟨K,hK⟩:∃K,K=(Ae z).length:=⟨_,rfl⟩
 rw[<-hK] at hll
 have hmk:=Iz K ω w
 obtain⟨V,hV⟩:∃V,V=w.alloc (.cells (Ld (List.replicate K 0)) 92):=⟨_,rfl⟩
 rw[<-hV] at hmk
 have HJ0:Hid (AaF w z L 0 (List.replicate K 0) V):=by
  refine⟨by rw[hV];exact Aq.made _ _ _,by rw[hV];exact Ψ.alloc ζ _,by simp[hK],Hp.zeros _,?_⟩
  rw[Rd,Nat.sub_zero]
  have:=Ahy (be z)
  rw[oC,<-hL] at this
  rw[Nat.div_eq_of_lt this,Nat.zero_mul]
 clear hV
 have HK:=Δ hK
 have hsz:(Bq z).size=L:=by rw[jQ,hL]
 have hd8:((L:Int)+7).tdiv 8=(K:Int):=by
  rw[Int.tdiv_eq_ediv_of_nonneg ω];omega
 have HBY:Hid (∀i k b (h:i<(Bq z).size),k=L-1-i->b=((Bq z)[i]).toNat->b=z/256^k%256):=λi k b h hk hb=>by
  rw[jQ] at h
  rw[hb,hk,hL];exact AgF z i h
 have HL:=Δ hL
 have HLL:=Δ hll
 have hKb:K<=50001:=by omega
 clear hK hL hll
 obtain⟨s,hs⟩:∃s,s=Bq z:=⟨_,rfl⟩
 rw[<-hs] at hsz HBY ⊢
 clear hs
 have hKw:wrap64 (K:Int)=(K:Int):=IntWalk.wrap64_in _ ω
 go_enter func102,ntmps102
 go_wp2_with (rw[hd8])
 go_loopw [4,5,13] (λ_ _ iv wr=>∃(i:Nat) (ls:List Nat),i<=L/\iv= .int .i64 (i:Nat)/\Hid (AaF w z L i ls wr)) (λ_ _ i _=>L-(intOf i).toNat)
 case atStart=>exact⟨0,_,Nat.zero_le _,rfl,HJ0⟩
 case round=>
  obtain⟨i,ls,hi,rfl,HJ⟩:=hrel
  clear HJ0 hmk
  by_cases hiL:i=L
  ·
   subst hiL
   have HV:Hid (ls=Ae z):=Ac2 HJ.out.dig (by have:=HJ.out.sum;rw[Nat.sub_self,Nat.pow_zero,Nat.div_one,Nat.mul_one] at this;exact this) HJ.out.len
   have HS:Hid (Hc wr w.heap.size wr.heap.size 1 (.slice (some ⟨w.heap.size,0,none⟩) K K) (Ae z).length (Gw (Ae z))):=by
    have h1:=HJ.out.row.sees (j:=0) (n:=K) (c:=K) (lo:=w.heap.size) (hi:=wr.heap.size) (by rw[HJ.out.len,<-HK.out];omega) ζ HJ.out.row.lt
    rw[List.drop_zero,List.take_of_length_le (by rw[HJ.out.len,<-HK.out];omega),HV.out] at h1
    unfold Hid
    rw[<-HK.out];exact h1
   go_wp2_with fail
   go_ret
   refine⟨_,rfl,⟨HS.out,?_⟩,HJ.out.below⟩
   show K<=K
   exact Nat.le_refl _
  ·
   have hin:i<L:=by omega
   have hii:(i:Int)<(L:Int):=by omega
   obtain⟨k,hk⟩:∃k,k=L-1-i:=⟨_,rfl⟩
   have hLi:L-i=k+1:=by omega
   have hLi1:L-(i+1)=k:=by omega
   obtain⟨L1,hL1⟩:∃L1,L1=L-1:=⟨_,rfl⟩
   have hw1:wrap64 ((L:Int)-1)=(L1:Int):=by rw[IntWalk.wrap64_in _ ω];omega
   have hkk:(L:Int)-1-(i:Int)=(k:Int):=by omega
   have hw2:wrap64 ((L1:Int)-(i:Int))=(k:Int):=by rw[IntWalk.wrap64_in _ ω];omega
   obtain⟨q,hq⟩:∃q,q=k/8:=⟨_,rfl⟩
   obtain⟨m,hm⟩:∃m,m=k%8:=⟨_,rfl⟩
   obtain⟨r,hr⟩:∃r,r=8*(k%8):=⟨_,rfl⟩
   have hkq:(k:Int).tdiv 8=(q:Int):=by rw[hq];rfl
   have hkm:(k:Int).tmod 8=(m:Int):=by rw[hm];rfl
   have HMR:Hid (IntKind.i64.wrap ((m:Int)*8)=(r:Int)):=by unfold Hid;rw[IntWalk.i64_in _ ω];omega
   have hr64:r<64:=by omega
   have hqK:q<K:=by have:=HLL.out;omega
   have hqKi:(q:Int)<(K:Int):=by omega
   have HQI:Hid (IntKind.i64.wrap (q:Int)=(q:Int)):=IntWalk.i64_in _ ω
   have gb:wr.cell? ⟨w.heap.size,q,none⟩=some (.int .u64 (dg ls q:Int)):=HJ.out.row.cell (by rw[HJ.out.len,<-HK.out];exact hqK)
   have hin':i<s.size:=by rw[hsz];exact hin
   obtain⟨b,hb⟩:∃b,b=(s[i]'hin').toNat:=⟨_,rfl⟩
   have hbe:=HBY.out i k b hin' hk hb
   have HST:=xA HJ.out.dig hq hr (by rw[HJ.out.len,<-HK.out];exact hqK) (by have:=HJ.out.sum;rw[hLi] at this;exact this) hbe
   have HB:=Δ hb
   have HSTH:=Δ HST
   have HNX:Hid (∀w2,Aq w2 w.heap.size (ls.set q (dg ls q+b*2^r))->Below w.heap.size w w2->AaF w z L (i+1) (ls.set q (dg ls q+b*2^r)) w2):=λw2 h hb=>
    ⟨h,hb,by rw[List.length_set];exact HJ.out.len,HJ.out.dig.set HSTH.out.2.1,by rw[hLi1];exact HSTH.out.2.2⟩
   have hb256:b<256:=by rw[hb];exact(s[i]'hin').toNat_lt
   have HUB:Hid (dg ls q<Bw):=Hj HJ.out.dig q
   obtain⟨u,hu⟩:∃u,u=dg ls q:=⟨_,rfl⟩
   rw[<-hu] at gb HSTH HNX HUB
   obtain⟨t,ht⟩:∃t,t=u+b*2^r:=⟨_,rfl⟩
   rw[<-ht] at HNX HSTH
   have h3:b*2^r<Bw:=by have:=HSTH.out.2.1;rw[ht] at this;omega
   have HSH:Hid (IntKind.u64.wrap ((b:Int)*2^r)=(b:Int)*2^r):=by
    unfold Hid;rw[Oa,Nat.mod_eq_of_lt h3];simp
   have HOR:Hid (bits .or .u64 (u:Int) ((b:Int)*2^r)=(t:Int)):=by
    have:=Mg HUB.out h3
    rw[HSTH.out.1] at this
    unfold Hid
    rw[<-this];simp
   have HBW:Hid (IntKind.u64.wrap (b:Int)=(b:Int)):=Fy (by have:Bw=18446744073709551616:=rfl;omega)
   have HBS:Hid (((s[i]'hin').toNat:Int)=(b:Int)):=by unfold Hid;rw[<-hb]
   clear hk hL1 hq hm hr hLi hLi1 hbe hb HST hu ht HLL HSTH hb256 h3
   go_wp2_with fail
   have CB:Hid (∀wa,Below wr.heap.size wr wa->wa.cell? ⟨w.heap.size,0+q*1,none⟩=some (.int .u64 (u:Int))):=λwa h=>by
    rw[Nat.zero_add,Nat.mul_one]
    exact(h.cell (p:=⟨w.heap.size,q,none⟩) HJ.out.row.lt).trans gb
   refine Vw 14 38 (λw'=>Below wr.heap.size wr w') [is (.slice (some ⟨w.heap.size,0,none⟩) K K),is (.int .i64 (k:Int)),is (.int .i64 (q:Int)),is (.pointer (some ⟨w.heap.size,0+q*1,none⟩)),is (.int .u64 (u:Int)),is (.string s),is (.int .i64 (i:Int)),is (.int .u8 (b:Int)),is (.int .u64 (b:Int)),is (.int .i64 (k:Int)),is (.int .i64 (m:Int)),is (.int .i64 (r:Int)),is (.int .u64 ((b*2^r:Nat):Int)),is (.int .u64 (t:Int))] κ κ rfl δ ?hst ?h0 ?hop ?htail
   case hst=>
    simp only[List.mem_cons,List.mem_nil_iff,or_false,forall_eq_or_imp,forall_eq]
    exact⟨Cl _,Cl _,Cl _,Cl _,Cl _,Cl _,Cl _,Cl _,Cl _,Cl _,Cl _,Cl _,Cl _,Cl _⟩
   case h0=>exact Ψ.drew
   case hop=>
    refine⟨?_,?_,?_,?_,?_,?_,?_,?_,?_,?_,?_,?_,?_,?_,trivial⟩
    · exact Mp (.tmp 3) (is (.slice (some ⟨w.heap.size,0,none⟩) K K)) rfl κ (λ_ _ _ h=>h)
    · exact Mp (.tmp 5) (is (.int .i64 (k:Int))) rfl κ (λ_ _ _ h=>h)
    · exact tF 22 (.int .i64 8) (.int .i64 (k:Int)) (.int .i64 (q:Int)) rfl κ (λa wa _ e1=>by go_simp;exact HQI.out) rfl
    · exact AcW 95 92 21 23 w.heap.size 0 K K 1 (q:Int) q rfl κ κ underlying95 AdX rfl hqK rfl
    · exact AfK 92 (.tmp 24) (.pointer (some ⟨w.heap.size,0+q*1,none⟩)) (.int .u64 (u:Int)) rfl κ (λwa hC=>Li wa κ (CB.out wa hC)) rfl
    · exact Mp (.tmp 0) (is (.string s)) rfl κ (λ_ _ _ h=>h)
    · exact Mp (.tmp 4) (is (.int .i64 (i:Int))) rfl κ (λ_ _ _ h=>h)
    · exact tE 26 27 (.string s) (.int .i64 (i:Int)) (.int .u8 (b:Int)) rfl κ κ (λa wa _ e1 e2=>by go_simp;exact HBS.out) rfl
    · exact AgS 28 (.int .u8 (b:Int)) (.int .u64 (b:Int)) rfl κ (λa wa _ e1=>by go_simp;exact HBW.out) rfl
    · exact Mp (.tmp 5) (is (.int .i64 (k:Int))) rfl κ (λ_ _ _ h=>h)
    · exact tF 30 (.int .i64 8) (.int .i64 (k:Int)) (.int .i64 (m:Int)) rfl κ (λa wa _ e1=>by go_simp) rfl
    · exact tF 31 (.int .i64 8) (.int .i64 (m:Int)) (.int .i64 (r:Int)) rfl κ (λa wa _ e1=>by go_simp;exact HMR.out) rfl
    · exact tE 29 32 (.int .u64 (b:Int)) (.int .i64 (r:Int)) (.int .u64 ((b*2^r:Nat):Int)) rfl κ κ (λa wa _ e1 e2=>by go_simp;exact HSH.out) rfl
    · exact tE 25 33 (.int .u64 (u:Int)) (.int .u64 ((b*2^r:Nat):Int)) (.int .u64 (t:Int)) rfl κ κ (λa wa _ e1 e2=>by go_simp;exact HOR.out) rfl
   case htail=>
   intro τ w2 hC hR
   have r2:τ 2= .int .i64 (q:Int):=hR 2 δ
   have r0:τ 0= .slice (some ⟨w.heap.size,0,none⟩) K K:=hR 0 δ
   have r13:τ 13= .int .u64 (t:Int):=hR 13 δ
   simp only[Fm,List.getElem?_toArray,List.getElem?_cons_succ,List.getElem?_cons_zero,Option.bind_some,Act.put,List.setIfInBounds_toArray,List.set_cons_succ,List.set_cons_zero,List.drop_succ_cons,List.drop_zero,r0,r2,r13]
   clear hR r0 r2 r13
   have HR2:Hid (Aq w2 w.heap.size ls):=HJ.out.row.below hC HJ.out.row.lt
   have HB2:Hid (Below w.heap.size w w2):=HJ.out.below.trans (hC.mono HJ.out.below.size)
   have gb2:w2.cell? ⟨w.heap.size,q,none⟩=some (.int .u64 (u:Int)):=(hC.cell (p:=⟨w.heap.size,q,none⟩) HJ.out.row.lt).trans gb
   have gf2:=HR2.out.frozen q
   have HN:=Δ (HNX.out _ (HR2.out.set q t) (HB2.out.setCell ζ _))
   clear gb
   go_wp2_with fail
   exact⟨⟨i+1,_,ω,rfl,HN⟩,by simp only[intOf];omega⟩
def eZ (w:World) (b:Nat) (l:List UInt8):Prop:=∃cur t,w.heap[b]?=some (.cells cur t (0,0))/\∀i (h:i<l.length),cur[i]?=some (.int .u8 (l[i].toNat:Int))
theorem eZ.cell {w:World} {b:Nat} {l:List UInt8} (h:eZ w b l) {i:Nat} (hi:i<l.length):w.cell? ⟨b,i,none⟩=some (.int .u8 (l[i].toNat:Int)):=by
 obtain⟨cur,t,hr,hc⟩:=h
 rw[<-hc i hi];simp[World.cell?,hr]
theorem eZ.frozen {w:World} {b:Nat} {l:List UInt8} (h:eZ w b l) (i:Nat):w.frozen? ⟨b,i,none⟩=false:=by
 obtain⟨cur,t,hr,hc⟩:=h
 simp[World.frozen?,hr]
theorem eZ.set {w:World} {b:Nat} {l:List UInt8} (h:eZ w b l) (i:Nat) (x:UInt8):eZ (w.setCell ⟨b,i,none⟩ (.int .u8 (x.toNat:Int))) b (l.set i x):=by
 obtain⟨cur,t,hr,hc⟩:=h
 refine⟨cur.setIfInBounds i (.int .u8 (x.toNat:Int)),t,by simp[World.setCell,Array.getElem?_modify,hr],λj hj=>?_⟩
 rw[List.length_set] at hj
 have:=hc j hj
 rw[Array.getElem?_setIfInBounds,List.getElem_set]
 by_cases e:i=j
 subst e
 rw[if_pos rfl,if_pos (Ξ this).1,if_pos rfl]
 rw[if_neg e,if_neg e];exact this
theorem Ag5:(Tryz.prog.info? 5).map (λi=>(i.zero,i.size,i.bytes))=some (some (.int .u8 0),1,1):=κ
theorem Af9 (n:Nat) (hn:n<=10000000) (w:World):∃cs,(Instr.makeSlice 201 (.int .i64 (n:Nat)) (.int .i64 (n:Nat))).run Tryz.prog w= .ok (.slice (some ⟨w.heap.size,0,none⟩) n n) (w.alloc (.cells cs 5))/\
  eZ (w.alloc (.cells cs 5)) w.heap.size (List.replicate n 0):=by
 obtain⟨i0,hi0,hz0,hz1,hz2⟩:=info_parts Ag5
 have:=run_makeSlice w 201 5 i0 _ underlying201 hi0 hz0 .i64 .i64 (n:Nat) (n:Nat) ω ω (by rw[hz1];simp;omega) (by rw[hz2];omega) ω
 rw[hz1] at this
 simp only[Int.toNat_natCast] at this
 refine⟨_,this,madeCells (Value.int .u8 0).cells (n*1),5,heap_alloc_new _ _,λi h=>?_⟩
 simp at h
 simp[madeCells,Value.cells,Nat.mod_one,h]
structure nY (w:World) (z L i:Nat) (wr:World):Prop where
 row:eZ wr w.heap.size ((be z).take i++List.replicate (L-i) 0)
 below:Below w.heap.size w wr
theorem yM {l:List UInt8} {L i:Nat} (hl:l.length=L) (hi:i<L):(l.take i++List.replicate (L-i) 0).set i (l[i]' ω)=l.take (i+1)++List.replicate (L-(i+1)) 0:=by
 subst hl
 rw[List.set_append,List.length_take_of_le ω,if_neg ω,Nat.sub_self,List.take_succ_eq_append_getElem hi,List.append_assoc]
 congr 1
 rw[show l.length-i=(l.length-(i+1))+1 by omega,List.replicate_succ]
 rfl
theorem yL (z L:Nat) (v:Value) (l0 h0:Nat) (w:World) (h:Bf w l0 h0 v z) (hh:h0<=w.heap.size) (hL:L=(be z).length) (hl:L<=400000):
  Calls Tryz.prog 94 #[v] w λe w'=>e= .returned (.string (Bq z))/\Below w.heap.size w w':=by
 have hll:=Tl z
 rw[<-hL] at hll
 have hbl:=Qw z
 rw[<-hL] at hbl
 obtain⟨K,hK⟩:∃K,K=(Ae z).length:=⟨_,rfl⟩
 rw[<-hK] at hll
 have HSZ:=Δ (mB z v l0 h0 w h (by rw[<-hK];omega))
 have hsv:=h.1
 obtain⟨A,c,rfl⟩:=hsv.slice
 have HS:=Δ hsv
 clear h hsv
 obtain⟨B,hB⟩:∃B,B=bitLen z:=⟨_,rfl⟩
 rw[<-hB] at hbl HSZ
 have hd8H:Hid (((B:Int)+7).tdiv 8=(L:Int)):=by unfold Hid;rw[Int.tdiv_eq_ediv_of_nonneg ω];omega
 have hBb:B<=3200000:=by omega
 have hLwH:Hid (wrap64 (L:Int)=(L:Int)):=IntWalk.wrap64_in _ ω
 obtain⟨cs,hmk,hrow⟩:=Af9 L ω w
 obtain⟨V,hV⟩:∃V,V=w.alloc (.cells cs 5):=⟨_,rfl⟩
 rw[<-hV] at hmk hrow
 have HJ0:Hid (nY w z L 0 V):=⟨by simpa using hrow,by rw[hV];exact Ψ.alloc ζ _⟩
 have HBY:Hid (∀i k (h:i<(be z).length),k=L-1-i->((be z)[i]).toNat=dg (Ae z) (k/8)/2^(8*(k%8))%256):=λi k h hk=>by
  rw[qG,hk,hL];exact AgF z i h
 have HL:=Δ hL
 have HK:=Δ hK
 have HLL:=Δ hll
 rw[<-hK] at HSZ ⊢
 clear hV hrow hL hK hll hbl hB
 have hd8:=hd8H.out
 have hLw:=hLwH.out
 go_enter func94,ntmps94
 go_wp2_with fail
 refine HSZ.out.mono ?_
 rintro e w' ⟨rfl,rfl⟩
 go_wp2_with (rw[hd8])
 go_loopw [4,5,13] (λ_ _ iv wr=>∃i:Nat,i<=L/\iv= .int .i64 (i:Nat)/\Hid (nY w z L i wr)) (λ_ _ i _=>L-(intOf i).toNat)
 case atStart=>exact⟨0,Nat.zero_le _,rfl,HJ0⟩
 case round=>
  obtain⟨i,hi,rfl,HJ⟩:=hrel
  clear HJ0 hmk hd8
  by_cases hiL:i=L
  ·
   subst hiL
   have hcv:(convert 201 9 (.slice (some ⟨w.heap.size,0,none⟩) i i)).run Tryz.prog wr= .ok (.string (Bq z)) wr:=by
    have hr:=HJ.out.row
    rw[Nat.sub_self,List.replicate_zero,List.append_nil,List.take_of_length_le (by rw[HL.out];exact Nat.le_refl _)] at hr
    have:=run_convert_bytes_back (P:=Tryz.prog) wr 201 9 5 ⟨w.heap.size,0,none⟩ i (be z) underlying201 underlying5 underlying9 (λj hj=>by
     rw[Ff,Nat.zero_add,hr.cell hj])
    rw[<-HL.out] at this
    exact this
   have HBW:=Δ HJ.out.below
   clear HJ
   go_wp2_with (rw[hcv])
   go_ret
   exact⟨rfl,HBW.out⟩
  ·
   have hin:i<L:=by omega
   have hii:(i:Int)<(L:Int):=by omega
   obtain⟨k,hk⟩:∃k,k=L-1-i:=⟨_,rfl⟩
   obtain⟨L1,hL1⟩:∃L1,L1=L-1:=⟨_,rfl⟩
   have hw1H:Hid (wrap64 ((L:Int)-1)=(L1:Int)):=by unfold Hid;rw[IntWalk.wrap64_in _ ω];omega
   have hkk:(L:Int)-1-(i:Int)=(k:Int):=by omega
   have hw2H:Hid (wrap64 ((L1:Int)-(i:Int))=(k:Int)):=by unfold Hid;rw[IntWalk.wrap64_in _ ω];omega
   obtain⟨q,hq⟩:∃q,q=k/8:=⟨_,rfl⟩
   obtain⟨m,hm⟩:∃m,m=k%8:=⟨_,rfl⟩
   obtain⟨r,hr⟩:∃r,r=8*(k%8):=⟨_,rfl⟩
   have hkqH:Hid ((k:Int).tdiv 8=(q:Int)):=by unfold Hid;rw[hq];rfl
   have hkmH:Hid ((k:Int).tmod 8=(m:Int)):=by unfold Hid;rw[hm];rfl
   have hmrH:Hid (wrap64 ((m:Int)*8)=(r:Int)):=by unfold Hid;rw[IntWalk.wrap64_in _ ω];omega
   have hmr8:(m:Int)*8=(r:Int):=by omega
   have hr64:r<64:=by omega
   have hqK:q<K:=by have:=HLL.out;omega
   have hqKi:(q:Int)<(K:Int):=by omega
   have hqwH:Hid (wrap64 (q:Int)=(q:Int)):=IntWalk.wrap64_in _ ω
   have hil:i<(be z).length:=by rw[<-HL.out];exact hin
   have hbe:=HBY.out i k hil hk
   rw[<-hq,<-hr] at hbe
   have HK1:=Δ hk
   clear hk hL1 hq hm hr
   obtain⟨b,o,c1,e,_,hb1,hc⟩:=HS.out.pos (by rw[<-HK.out];omega)
   have hA:A=some ⟨b,o,none⟩:=by cases e;rfl
   subst hA
   clear e
   have g0:wr.cell? ⟨b,o+q,none⟩=some (.int .u64 (dg (Ae z) q:Int)):=(HJ.out.below.cell (p:=⟨b,o+q,none⟩) (by show b<_;omega)).trans (hc _ _ (Ct _ _ (by rw[<-HK.out];exact hqK)))
   clear hc
   obtain⟨y,hy⟩:∃y,y=(be z)[i]:=⟨_,rfl⟩
   rw[<-hy] at hbe
   have HNX:Hid (nY w z L (i+1) (wr.setCell ⟨w.heap.size,i,none⟩ (.int .u8 (y.toNat:Int)))):=by
    refine⟨?_,HJ.out.below.setCell ζ _⟩
    have:=HJ.out.row.set i y
    rw[hy,yM HL.out.symm hin] at this
    rw[hy];exact this
   have hlen:((be z).take i++List.replicate (L-i) 0).length=L:=by
    rw[List.length_append,List.length_take_of_le (by rw[<-HL.out];exact hi),List.length_replicate];omega
   have gb:∃u,wr.cell? ⟨w.heap.size,i,none⟩=some u:=⟨_,HJ.out.row.cell (i:=i) (by rw[hlen];exact hin)⟩
   obtain⟨u,gb⟩:=gb
   have gf:=HJ.out.row.frozen i
   obtain⟨x,hx⟩:∃x,x=dg (Ae z) q:=⟨_,rfl⟩
   rw[<-hx] at g0 hbe
   have hby:IntKind.u8.wrap ((x:Int)/2^r)=(y.toNat:Int):=by
    rw[hbe,show ((x:Int)/2^r)=((x/2^r:Nat):Int) by simp,IntKind.wrap_u8];omega
   obtain⟨yn,hyn⟩:∃yn,yn=y.toNat:=⟨_,rfl⟩
   rw[<-hyn] at hby HNX
   clear hbe hx hy hlen hyn
   have hw1:=hw1H.out
   have hw2:=hw2H.out
   have hkq:=hkqH.out
   have hkm:=hkmH.out
   have hmr:=hmrH.out
   have hqw:=hqwH.out
   go_wp2_with fail
   exact⟨⟨i+1,ω,rfl,HNX⟩,by simp only[intOf];omega⟩
def Cn (neg:Bool) (n:Nat):Int:=if neg then -(n:Int) else n
theorem Tz (neg:Bool) (n:Nat):(Cn neg n).natAbs=n:=by unfold Cn;split<;>simp
theorem Je (z:Int):Cn (decide (z<0)) z.natAbs=z:=by unfold Cn;by_cases h:z<0<;>simp[h]<;>omega
def Ah (z:Int):Value:= .agg #[.bool (decide (z<0)),.string (Bq z.natAbs)]
theorem iH (b:Bool) (n m:Nat):Cn b (n+m)=Cn b n+Cn b m:=by unfold Cn;cases b<;>simp<;>omega
theorem pY {a b:Bool} (h:a≠b) {n m:Nat} (hm:m<=n):Cn a (n-m)=Cn a n+Cn b m:=by unfold Cn;cases a<;>cases b<;>simp at h ⊢<;>omega
theorem pZ {a b:Bool} (h:a≠b) {n m:Nat} (hm:n<=m):Cn b (m-n)=Cn a n+Cn b m:=by unfold Cn;cases a<;>cases b<;>simp at h ⊢<;>omega
theorem Agk (a b:Bool) (n m:Nat):Cn (a != b) (n*m)=Cn a n*Cn b m:=by unfold Cn;cases a<;>cases b<;>simp[Int.neg_mul,Int.mul_neg]
theorem Nm:Bq 0=⟨#[]⟩:=by unfold Bq;rw[Ih]
theorem Agl {neg:Bool} {n:Nat}:decide (Cn neg n<0)=(neg&&decide (0<n)):=by unfold Cn;cases neg<;>simp<;>omega
theorem mS {a b q r:Int} (hb:0<b) (h:r+b*q=a) (h0:0<=r) (h1:r<b):a/b=q/\a%b=r:=(Int.ediv_emod_unique hb).2 ⟨h,h0,h1⟩
theorem mR {a b q r:Int} {m:Nat} (hm:b=m\/b= -(m:Int)) (hm0:0<m) (h:r+b*q=a) (h0:0<=r) (h1:r<m):a/b=q/\a%b=r:=by
 rcases hm with rfl|rfl
 exact mS ω h h0 h1
 have h2:r+(m:Int)*(-q)=a:=by rw[<-h,Int.mul_neg,Int.neg_mul]
 obtain⟨e1,e2⟩:=mS ω h2 h0 h1
 exact⟨by rw[Int.ediv_neg,e1];simp,by rw[Int.emod_neg,e2]⟩
theorem tT {ng mg:Bool} {n m:Nat} (hm:0<m) (h:ng=false\/n%m=0):Cn ng n/Cn mg m=Cn (ng != mg) (n/m)/\Cn ng n%Cn mg m=Cn false (n%m):=by
 have e:=Nat.mod_add_div n m
 have hl:=Nat.mod_lt n hm
 refine mR (m:=m) (by unfold Cn;cases mg<;>simp) hm ?_ (by simp[Cn];omega) (by simp[Cn];omega)
 have e2:((n%m:Nat):Int)+(m:Int)*((n/m:Nat):Int)=(n:Int):=by rw[<-Int.natCast_mul,<-Int.natCast_add,e]
 generalize n/m=q at*
 generalize n%m=r at*
 rcases h with rfl|h0
 unfold Cn;cases mg<;>simp[Int.neg_mul,Int.mul_neg] at* <;>omega
 rw[h0] at e2 ⊢
 unfold Cn;cases ng<;>cases mg<;>simp[Int.neg_mul,Int.mul_neg] at* <;>omega
theorem yD {mg:Bool} {n m:Nat} (hm:0<m):Cn false n/Cn mg m=Cn mg (n/m)/\Cn false n%Cn mg m=Cn false (n%m):=by
 have:=tT (ng:=false) (mg:=mg) (n:=n) hm (.inl rfl)
 cases mg<;>exact this
theorem yE {mg:Bool} {n m:Nat} (hm:0<m) (h:n%m=0):Cn true n/Cn mg m=Cn (!mg) (n/m)/\Cn true n%Cn mg m=Cn false (n%m):=by
 have:=tT (ng:=true) (mg:=mg) (n:=n) hm (.inr h)
 cases mg<;>exact this
theorem pX {mg:Bool} {n m:Nat} (hm:0<m) (h:0<n%m):Cn true n/Cn mg m=Cn (!mg) (n/m+1)/\Cn true n%Cn mg m=Cn false (m-n%m):=by
 have e:=Nat.mod_add_div n m
 have hl:=Nat.mod_lt n hm
 refine mR (m:=m) (by unfold Cn;cases mg<;>simp) hm ?_ (by simp[Cn]) (by simp[Cn];omega)
 have e2:((n%m:Nat):Int)+(m:Int)*((n/m:Nat):Int)=(n:Int):=by rw[<-Int.natCast_mul,<-Int.natCast_add,e]
 generalize n/m=q at*
 generalize n%m=r at*
 have e3:((m-r:Nat):Int)=(m:Int)-(r:Int):=by omega
 unfold Cn
 cases mg<;>simp[e3,Int.mul_add,Int.neg_mul,Int.mul_neg] at* <;>omega
theorem sP:Ae 1=[1]:=by rw[Mk δ,show 1%Bw=1 by decide,show 1/Bw=0 by decide,Cf]
def Bm (z:Int):Prop:=bitLen z.natAbs<=65536
theorem Bm.bytes {z:Int} (h:Bm z):(be z.natAbs).length<=8192:=by unfold Bm at h;rw[Qw];omega
theorem Bm.digits {z:Int} (h:Bm z):(Ae z.natAbs).length<=1024:=by have:=h.bytes;have:=Tl z.natAbs;omega
theorem AaR {n:Nat} (_:n≠0) (hp:0<(be n).length):((be n)[0]).toNat≠0:=by
 have hh:=AeV n
 rw[List.head?_eq_getElem?,List.getElem?_eq_getElem hp] at hh
 intro e
 apply hh
 have:(be n)[0]=0:=UInt8.toNat_inj.1 e
 rw[this]
theorem jP (n:Nat):(Bq n).toList=be n:=by simp[Bq]
theorem cW {n:Nat}:(Bq n).toList.isEmpty=decide (n=0):=by
 rw[jP]
 by_cases h:n=0
 subst h;rw[Ih];rfl
 have h2:(be n)≠[]:=λe=>h (AaT.1 e)
 simp[h,h2]
theorem Mf {n m:Nat} (h:n<=m):bitLen n<=bitLen m:=Em.2 (Nat.lt_of_le_of_lt h (Lh m))
theorem sF {x y:Int} (hx:Bm x) (hy:Bm y):Bm (Nat.gcd x.natAbs y.natAbs:Int):=by
 unfold Bm at*
 rw[Int.natAbs_natCast]
 by_cases h:x.natAbs=0
 rw[h,Nat.gcd_zero_left];exact hy
 exact Nat.le_trans (Mf (Nat.gcd_le_left _ (Nat.pos_of_ne_zero h))) hx
theorem Di {n:Int} (h0: -9223372036854775808<=n) (h1:n<=9223372036854775807):Bm n:=by
 refine Nat.le_trans (Mf (m:=Bw) ?_) δ
 have:Bw=18446744073709551616:=rfl
 omega
theorem Kx {x y:Int} (hx:Bm x):Bm (x/y):=Nat.le_trans (Mf (Int.natAbs_ediv_le_natAbs x y)) hx
theorem AfB {x y:Int} (hy:Bm y) (h0:y≠0):Bm (x%y):=by
 refine Nat.le_trans (Mf (m:=y.natAbs) ?_) hy
 have h1:=Int.emod_nonneg x h0
 have h2:x%y<(y.natAbs:Int):=Int.emod_lt x h0
 omega
end Go.Proofs.YtbggmndaahbojaaGreat