/- Part 9 of the proof of SH.row_holds, joined by program: no condition beyond the row's own. -/
import Derived.Test.YtldnjomacnjhnaaGreatH8
import Derived.Lib.SliceRun
import Derived.Laws.IdiomCopy
set_option maxRecDepth 100000
set_option maxHeartbeats 40000000
namespace Go.Proofs.YtldnjomacnjhnaaGreat
open Go.Proofs.Tryz
open Go.RowKit
def AcH (w:World) (n m:Nat) (e:Ending) (w':World):Prop:=
 ∃q r,e= .returned (.tuple #[q,r])/\Bi w' 0 w'.heap.size q (n/m)/\Bi w' 0 w'.heap.size r (n%m)/\Below w.heap.size w w'
theorem Bi.more {w:World} {lo hi lo' hi':Nat} {v:Value} {n:Nat} (h:Bi w lo hi v n) (h1:lo'<=lo) (h2:hi<=hi'):Bi w lo' hi' v n:=⟨h.1.more h1 h2,h.2⟩
theorem Bi.below {w w':World} {lo hi:Nat} {v:Value} {n:Nat} (h:Bi w lo hi v n) (hb:Below hi w w'):Bi w' lo hi v n:=⟨h.1.below hb,h.2⟩
theorem Bi.drewN {w:World} {lo hi:Nat} {v:Value} {n:Nat} (h:Bi w lo hi v n) (q:Nat):Bi (w.drewN q) lo hi v n:=⟨h.1.keep λ_ _ _ _=>rfl,h.2⟩
theorem Bi.up {w w':World} {lo hi:Nat} {v:Value} {n:Nat} (h:Bi w lo hi v n) (hh:hi<=w.heap.size) (hb:Below w.heap.size w w'):Bi w' 0 w'.heap.size v n:=
 (h.below (hb.mono hh)).more (Nat.zero_le _) (Nat.le_trans hh hb.size)
theorem Bi.nil (w:World) (lo hi:Nat):Bi w lo hi (.slice none 0 0) 0:=⟨by rw[Db];exact Cz.nil _ _,Nat.le_refl _⟩
theorem Wr (w:World) (x:Nat) (hx:x<Bw) (t:TypeId):Calls Tryz.prog 124 #[.slice (some ⟨w.heap.size,0,none⟩) 1 1] (w.alloc (.cells #[.int .u64 (x:Int)] t)) (Dn w x):=by
 have hr:Bo (w.alloc (.cells #[.int .u64 (x:Int)] t)) w.heap.size [x]:=Bo.made w [x] t
 exact hr.done (Nat.le_refl _) ((Below.refl _ _).alloc (Nat.le_refl _) _) (λy hy=>by simp at hy;subst hy;exact hx) (by simp) rfl (Nat.le_refl _) (by simp[val])
def wK (lo n:Nat) (v:Value) (w:World):Prop:=Bi w lo w.heap.size v n
theorem Xz (lo n:Nat):Hp (wK lo n):=λ_ _ _ hb h=>(Bi.below h hb).more (Nat.le_refl _) hb.size
def eM (lo n:Nat) (v:Value) (w:World):Prop:=∃b,lo<=b/\v= .slice (some ⟨b,0,none⟩) n n/\w.heap[b]?=some (.cells (Mi (List.replicate n 0)) 155 (0,0))
theorem Vv (lo n:Nat):Hp (eM lo n):=λ_ _ _ hb ⟨b,h1,h2,h3⟩=>⟨b,h1,h2,(hb.block b (Array.getElem?_eq_some_iff.1 h3).1).trans h3⟩
theorem Ad0 {ops:Array Oper} {k:Nat} {R:Nat->Value->World->Prop} {a0:Act} {Q:Exit->Act->World->Prop} {W:World} {i:Nat} {o:Oper} (t n:Nat) (ho:o.op= .makeSlice 151 (.tmp t) (.tmp t)) {z:Int} (hz:z=(n:Int))
  (hx:Hf ops k R a0 (.tmp t)=is (.int .i64 z)) (hn:n<=10000000) (hr:R i=eM W.heap.size n):Ih Tryz.prog ops k (λw'=>Below W.heap.size W w') R a0 Q i o:=by
 subst hz
 intro a w _ hC hpre
 have h1:a.eval (.tmp t)= .int .i64 (n:Int):=by have:=hpre (.tmp t) (by rw[ho];simp[Op.operands]);rw[hx] at this;exact this
 unfold Oper.wp
 have:(execOp a.eval o).run Tryz.prog w= .ok (.value (.slice (some ⟨w.heap.size,0,none⟩) n n)) (w.alloc (.cells (Mi (List.replicate n 0)) 155)):=by
  simp[execOp,ho,h1,Kn n hn w]
 rw[this]
 refine⟨_,rfl,hC.alloc hC.size _,(Below.refl _ _).alloc (Nat.le_refl _) _,?_⟩
 rw[hr]
 exact⟨_,hC.size,rfl,heap_alloc_new _ _⟩
theorem Pd {wr:World} {b:Nat} {ls:List Nat} (h:Bo wr b ls) (hd:Iq ls) {j n c m:Nat} (hj:j+n<=ls.length) (hn:n<=1000000) (hc:n<=c) (hm:val ((ls.drop j).take n)=m):
  Calls Tryz.prog 124 #[.slice (some ⟨b,j,none⟩) n c] wr λe w'=>∃v',e= .returned v'/\Bi wr 0 wr.heap.size v' m/\wr=w':=by
 have hl:((ls.drop j).take n).length=n:=by rw[List.length_take,List.length_drop];omega
 have hs:=h.sees (j:=j) (n:=n) (c:=c) (lo:=0) (hi:=wr.heap.size) hj (Nat.zero_le _) h.lt
 have:=dB ((ls.drop j).take n) (.slice (some ⟨b,j,none⟩) n c) 0 wr.heap.size wr (by rw[hl];exact hs) hc ((hd.drop j).take n) ω
 rw[hm] at this
 exact this
theorem Acm (n:Nat):List.replicate n (Value.int .u64 0)=Iz (List.replicate n 0):=by simp[Iz]
theorem Lt (w:World) (ty:TypeId) (b j n c:Nat) (ls:List Nat) (hr:Bo w b ls) (hj:j+n<=ls.length) (v:Value) (x lo hi:Nat) (hx:Bi w lo hi v x) (hxn:(Al x).length<=n):
  (Builtin.copy_ #[151,151] ty #[.slice (some ⟨b,j,none⟩) n c,v]).run Tryz.prog w= .ok (goInt (Al x).length) (w.setCells b j (Iz (Al x))):=by
 obtain⟨i0,hi0,hz0,hz1,hz2⟩:=info_parts dE
 have hsz:(Tryz.prog.info? 155).map (·.size)=some 1:=by rw[hi0];simp[hz1]
 rcases hx.1.2 with⟨A,c',rfl,h0⟩|⟨b',o',c',rfl,_,hc⟩
 have he:Al x=[]:=List.eq_nil_of_length_eq_zero h0
 rw[he]
 exact run_copy_none w _ _ _ 155 _ _ n c 0 c' underlying151 hsz (by simp)
 have:=run_copy_cells w 151 151 ty 155 b j n c ⟨b',o',none⟩ (Al x).length c' (Iz (Al x)) underlying151 hsz
  (by rw[Dy];exact(Nat.min_eq_left hxn).symm) (λi u hu=>by rw[Fb];exact hc i u hu) (λi hi=>by rw[Dy] at hi;rw[hr.cell ω];rfl) (λi _=>hr.frozen _) (pC _)
 rw[Dy] at this
 exact this
theorem Pb (w:World) (ty:TypeId) (b j n c:Nat) (ls:List Nat) (hr:Bo w b ls) (hj:j+n<=ls.length) (hn:0<n):
  (Builtin.clear_ #[151] ty #[.slice (some ⟨b,j,none⟩) n c]).run Tryz.prog w= .ok (.tuple #[]) (w.setCells b j (Iz (List.replicate n 0))):=by
 have hrun:=Lib.run_clear_slice (P:=Tryz.prog) w 151 155 ty (.int .u64 0) underlying151 (λw=>by kernel_rfl) rfl rfl b j n c hn (λi hi=>by rw[hr.cell ω];rfl) (λi _=>hr.frozen _)
 rw[Acm] at hrun
 exact hrun
theorem Adn {g:Nat} (h:g=Bw-1):(18446744073709551615:Int)=(g:Int):=by subst h;rfl
structure qE (w:World) (N M D U br bq:Nat) (vd:Value) (bd i:Nat) (qs ls:List Nat) (wr:World):Prop where
 r:Bo wr br ls
 q:Bo wr bq qs
 d:Bi wr bd (bd+1) vd D
 hd:bd<wr.heap.size
 below:Below w.heap.size w wr
 j:wQ U D i qs ls
 rl:ls.length=N+1
 ql:qs.length=N+1-M
structure wN (wr:World) (D W g:Nat) (pv:Value) (wq:World):Prop where
 ge:W/D<=g
 lt:g<Bw
 part:Bi wq 0 wq.heap.size pv (g*D)
 below:Below wr.heap.size wr wq
theorem tW (n m:Nat) (v v':Value) (l0 h0 l1 h1:Nat) (w:World) (h:Bi w l0 h0 v n) (h':Bi w l1 h1 v' m) (hh:h0<=w.heap.size) (hh':h1<=w.heap.size) (hl:(Al n).length<=100000) (hl':(Al m).length<=100000) (hm:0<m):
  Calls Tryz.prog 152 #[v,v'] w (AcH w n m):=by
 have hs:=h.1
 have hs':=h'.1
 obtain⟨A,c,rfl⟩:=hs.slice
 obtain⟨A',c',rfl⟩:=hs'.slice
 have HCMP:=Lib.hid (Ns n m _ _ l0 h0 l1 h1 w h h' ω ω)
 have HN0:=Lib.hid h
 have HM0:=Lib.hid h'
 have HS:=Lib.hid hs
 have HS':=Lib.hid hs'
 clear h h' hs hs'
 obtain⟨N,hN⟩:∃N,N=(Al n).length:=⟨_,rfl⟩
 obtain⟨M,hM⟩:∃M,M=(Al m).length:=⟨_,rfl⟩
 rw[<-hN] at hl HCMP HN0 HS
 rw[<-hM] at hl' HCMP HM0 HS'
 rw[<-hN,<-hM]
 have HN:=Lib.hid hN
 have HM:=Lib.hid hM
 have hMp:0<M:=by rw[hM];exact List.length_pos_iff.2 λe=>by have:=Iu.1 e;omega
 have HMP:=Lib.hid hm
 clear hN hM hm
 go_enter func152,ntmps152
 go_wp2_with fail
 refine HCMP.out.mono ?_
 rintro e w1 ⟨r,q1,rfl,hw1,HR⟩
 have hb1:Below w.heap.size w w1:=by rw[hw1];exact Ka (Below.refl _ _) q1
 have hz1:w1.heap.size=w.heap.size:=by rw[hw1];simp
 by_cases hlt:n<m
 ·
  have hr0:r<0:=HR.lt.2 hlt
  have HNA:Hid (Bi w1 0 w1.heap.size (.slice A N c) n):=by rw[hw1];exact(HN0.out.drewN q1).more (Nat.zero_le _) (by simpa using hh)
  have HQ:Hid (n/m=0/\n%m=n):=⟨Nat.div_eq_of_lt hlt,Nat.mod_eq_of_lt hlt⟩
  clear hw1 hlt HR
  go_wp2_with fail
  go_ret2
  exact⟨_,_,rfl,by rw[HQ.out.1];exact Bi.nil _ _ _,by rw[HQ.out.2];exact HNA.out,hb1⟩
 ·
  have hr0:¬r<0:=λh=>hlt (HR.lt.1 h)
  have HNL:Hid (m<=n):=by unfold Hid;omega
  have HN1:Hid (Bi w1 l0 h0 (.slice A N c) n):=by rw[hw1];exact HN0.out.drewN q1
  have HM1:Hid (Bi w1 l1 h1 (.slice A' M c') m):=by rw[hw1];exact HM0.out.drewN q1
  obtain⟨bm,om,cm,e,_,hbm,hcm⟩:=HM1.out.1.pos (by rw[<-HM.out];exact hMp)
  have hA':A'=some ⟨bm,om,none⟩:=by cases e;rfl
  subst hA'
  clear e HR HN0 HM0 HS HS' HCMP
  rw[<-hz1] at hh hh'
  by_cases hM1:M=1
  ·
   have hMb:((M:Int)==1)=true:=by rw[hM1];rfl
   have hdm:dg (Al m) 0=m:=by
    have:=Ei (Al m) 0
    rw[Im (by rw[<-HM.out,hM1];exact Nat.le_refl _),Df,Kz] at this
    simp at this;exact this.symm
   have gm:w1.cell? ⟨bm,om,none⟩=some (.int .u64 (m:Int)):=by
    have:=hcm 0 _ (Ds (Al m) 0 (by rw[<-HM.out,hM1];omega))
    rw[hdm] at this;exact this
   have HMB:Hid (m<Bw):=by unfold Hid;rw[<-hdm];exact Ij (Di m) 0
   have HSM:=Lib.hid (zH n m (.slice A N c) l0 h0 w1 HN1.out hh (by have:=HN.out;omega) HMP.out HMB.out)
   clear hcm hdm hw1 hlt
   subst hM1
   go_wp2_with fail
   refine HSM.out.mono ?_
   rintro e w2 ⟨vq,rfl,hq,hb2⟩
   have HQ:=Lib.hid hq
   have HT:=Lib.hid (λt=>Wr w2 (n%m) (Nat.lt_trans (Nat.mod_lt _ HMP.out) HMB.out) t)
   clear hq
   obtain⟨x,hx⟩:∃x,x=n%m:=⟨_,rfl⟩
   rw[<-hx] at HT ⊢
   have HX:=Lib.hid hx
   clear hx
   go_wp2_with fail
   refine(HT.out _).mono ?_
   rintro e w3 ⟨vr,rfl,hr,hb3⟩
   have hz:=hb2.size
   go_wp2_with fail
   go_ret2
   refine⟨_,_,rfl,HQ.out.up (Nat.le_refl _) hb3,?_,hb1.trans ((hb2.trans (hb3.mono hz)).mono ω)⟩
   rw[<-HX.out]
   exact hr.more (Nat.zero_le _) (Nat.le_refl _)
  ·
   have hMb:((M:Int)==1)=false:=by rw[beq_eq_false_iff_ne];omega
   have hMi:(M:Int)-1=((M-1:Nat):Int):=by omega
   have hMN:M<=N:=by rw[HM.out,HN.out];exact Lk HNL.out
   have hMl:((M-1:Nat):Int)<(M:Int):=by omega
   have hM0:(0:Int)<=((M-1:Nat):Int):=by omega
   have gm:w1.cell? ⟨bm,om+(M-1),none⟩=some (.int .u64 (dg (Al m) (M-1):Int)):=hcm _ _ (Ds _ _ (by rw[<-HM.out];omega))
   have hdt:dg (Al m) (M-1)<Bw:=Ij (Di m) _
   have HLZ:=Lib.hid (rK (dg (Al m) (M-1)) hdt)
   obtain⟨b,hb⟩:∃b,b=64-bitLen (dg (Al m) (M-1)):=⟨_,rfl⟩
   have hbi:64-(bitLen (dg (Al m) (M-1)):Int)=(b:Int):=by have:=Xd hdt;omega
   rw[hbi] at HLZ
   have hst:=zE HM.out.symm hMp hb
   have hqs:=yS (n:=n) (m:=m) (b:=b) HM.out.symm hMp HN.out.symm hMN hst.2
   have hsc:=eT (u:=n) (y:=m) (Nat.two_pow_pos b)
   have hb64:=hst.2
   obtain⟨D,hD⟩:∃D,D=m*2^b:=⟨_,rfl⟩
   obtain⟨U,hU⟩:∃U,U=n*2^b:=⟨_,rfl⟩
   rw[<-hD] at hst hqs hsc
   rw[<-hU] at hqs hsc
   have HK:Hid ((Al D).length=M):=hst.1
   have HQS:=Lib.hid hqs
   have HSC:=Lib.hid hsc
   have HSHL:Hid (∀wa,Below w1.heap.size w1 wa->Calls Tryz.prog 165 #[.slice (some ⟨bm,om,none⟩) M c',.int .i64 (b:Int)] wa λe w'=>∃v,e= .returned v/\Below w1.heap.size w1 w'/\Below wa.heap.size wa w'/\wK w1.heap.size D v w'):=λwa hC=>by
    refine(vI m b _ l1 h1 wa (HM1.out.below (hC.mono hh')) (Nat.le_trans hh' hC.size) (by rw[<-HM.out];omega) ω).mono ?_
    rintro e w' ⟨v,rfl,hv,hbl⟩
    exact⟨v,rfl,hC.trans (hbl.mono hC.size),hbl,by rw[hD];exact hv.more hC.size (Nat.le_refl _)⟩
   have HSHN:Hid (∀wa,Below w1.heap.size w1 wa->Calls Tryz.prog 165 #[.slice A N c,.int .i64 (b:Int)] wa (Dn wa U)):=λwa hC=>by
    rw[hU]
    exact vI n b _ l0 h0 wa (HN1.out.below (hC.mono hh)) (Nat.le_trans hh hC.size) (by rw[<-HN.out];omega) ω
   clear hcm hw1 hlt hb hbi hst hqs hsc hD hU hdt
   generalize dg (Al m) (M-1)=top at*
   go_wp2_with fail
   refine(HLZ.out _).mono ?_
   rintro e w2 ⟨rfl,rfl⟩
   go_wp2_with fail
   refine Dc 9 145 (λw'=>Below w1.heap.size w1 w') [is (.slice (some ⟨bm,om,none⟩) M c'),is (.int .i64 (b:Int)),wK w1.heap.size D,is (.slice A N c),is (.int .i64 (N:Int)),is (.int .i64 ((N:Int)+1)),eM w1.heap.size (N+1),wK w1.heap.size D,eM w1.heap.size (N+1)] κ κ rfl δ ?hst ?h0 ?hop ?htail
   case hst=>
    simp only[List.mem_cons,List.mem_nil_iff,or_false,forall_eq_or_imp,forall_eq]
    exact⟨Ab _,Ab _,Xz _ _,Ab _,Ab _,Ab _,Vv _ _,Xz _ _,Vv _ _⟩
   case h0=>exact(Below.refl _ _).drew
   case hop=>
    refine⟨?_,?_,?_,?_,?_,?_,?_,?_,?_,trivial⟩
    · exact Cy (.tmp 1) (is (.slice (some ⟨bm,om,none⟩) M c')) rfl κ (λ_ _ _ h=>h)
    · exact Cy (.tmp 8) (is (.int .i64 (b:Int))) rfl κ (λ_ _ _ h=>h)
    · exact Cd 165 [.tmp 45,.tmp 46] _ [.slice (some ⟨bm,om,none⟩) M c',.int .i64 (b:Int)] rfl (λ_ _=>by kernel_rfl) ⟨κ,κ,trivial⟩ HSHL.out
    · exact Cy (.tmp 0) (is (.slice A N c)) rfl κ (λ_ _ _ h=>h)
    · exact Vy 48 (.slice A N c) (.int .i64 (N:Int)) rfl κ (λa wa _ e1=>by go_simp) rfl
    · exact bQ 49 (.int .i64 1) (.int .i64 (N:Int)) (.int .i64 ((N:Int)+1)) rfl κ (λa wa _ e1=>by go_simp;exact IntWalk.i64_in _ ω) rfl
    · exact Ad0 50 (N+1) rfl (z:=(N:Int)+1) ω κ ω rfl
    · exact fP (.tmp 47) (wK w1.heap.size D) rfl κ (λ_ _ _ h=>h)
    · exact fP (.tmp 51) (eM w1.heap.size (N+1)) rfl κ (λ_ _ _ h=>h)
   case htail=>
   intro τ w2 hC hR
   have r7:wK w1.heap.size D (τ 7) w2:=hR 7 δ
   have r8:eM w1.heap.size (N+1) (τ 8) w2:=hR 8 δ
   obtain⟨vd,hvd⟩:∃vd,vd=τ 7:=⟨_,rfl⟩
   obtain⟨br,hbr,hvr,hrow⟩:=r8
   rw[<-hvd] at r7
   simp only[Bl,List.getElem?_toArray,List.getElem?_cons_succ,List.getElem?_cons_zero,Option.bind_some,Act.put,List.setIfInBounds_toArray,List.set_cons_succ,List.set_cons_zero,List.drop_succ_cons,List.drop_zero,hvr,<-hvd]
   clear hR hvr hvd
   obtain⟨Ad,cd,rfl⟩:=r7.1.slice
   rw[HK.out] at r7 ⊢
   obtain⟨bd,od,cd',e,hbd,hbd2,hcd⟩:=r7.1.pos (by rw[HK.out];exact hMp)
   have hAd:Ad=some ⟨bd,od,none⟩:=by cases e;rfl
   subst hAd
   clear e
   have HDN:Hid (0<D):=by
    have:=HSC.out.1;have:=HQS.out.1
    unfold Hid
    rcases Nat.eq_zero_or_pos D with h|h
    · rw[h] at this;simp at this
    · exact h
   have hne:bd≠br:=by
    intro e
    have h1:=hcd (M-1) _ (Ds (Al D) (M-1) (by rw[HK.out];omega))
    have h2:=Zt HK.out hMp
    rw[e] at h1
    simp only[World.cell?,hrow] at h1
    rcases Nat.lt_or_ge (od+(M-1)) (N+1) with h3|h3
    ·
     have h4:=Zu (List.replicate (N+1) 0) (od+(M-1)) (by simpa using h3)
     rw[Rc] at h4
     rw[h4] at h1
     simp at h1
     omega
    ·
     rw[Array.getElem?_eq_none (by simpa [Mi,Iz] using h3)] at h1
     cases h1
   have hrr:Bo w2 br (List.replicate (N+1) 0):=⟨_,_,hrow,λi hi=>Zu _ i hi⟩
   have hbrl:br<w2.heap.size:=hrr.lt
   have HR2:=Lib.hid hrr
   have HD2:Hid (Bi w2 bd (bd+1) (.slice (some ⟨bd,od,none⟩) M cd) D):=by
    refine⟨⟨by rw[Dy];omega,.inr ⟨bd,od,cd,by rw[HK.out],⟨Nat.le_refl _,Nat.lt_succ_self _⟩,hcd⟩⟩,r7.2⟩
   have hSU:=HSHN.out w2 hC
   have HSU:=Lib.hid hSU
   have HKU:Hid ((Al U).length<=N+1):=HQS.out.2
   have HC2:=Lib.hid hC
   clear hcd r7 hrow hrr hSU HSHN hC
   go_wp2_with fail
   refine HSU.out.mono ?_
   rintro e w3 ⟨vU,rfl,hU3,hb3⟩
   have hz3:=hb3.size
   have HR3:Hid (Bo w3 br (List.replicate (N+1) 0)):=HR2.out.below hb3 hbrl
   have HD3:Hid (Bi w3 bd (bd+1) (.slice (some ⟨bd,od,none⟩) M cd) D):=HD2.out.below (hb3.mono hbd2)
   have hb13:Below w1.heap.size w1 w3:=HC2.out.trans (hb3.mono HC2.out.size)
   have HU3:=Lib.hid hU3
   have HB13:=Lib.hid hb13
   clear hU3 hb13 hb3 HR2 HD2 HC2 HSU
   have hcp:=Lt w3 3 br 0 (N+1) (N+1) _ HR3.out (by simp) vU U _ _ HU3.out HKU.out
   obtain⟨W4,hW4⟩:∃W4,W4=w3.setCells br 0 (Iz (Al U)):=⟨_,rfl⟩
   rw[<-hW4] at hcp
   have HR4:Hid (Bo W4 br (put (List.replicate (N+1) 0) 0 (Al U))):=by
    unfold Hid;rw[hW4];exact Bo.setCells (Al U) HR3.out (by simp;exact HKU.out)
   have HD4:Hid (Bi W4 bd (bd+1) (.slice (some ⟨bd,od,none⟩) M cd) D):=by
    unfold Hid;rw[hW4]
    refine⟨HD3.out.1.keep λb o h1 h2=>?_,HD3.out.2⟩
    exact World.cell?_of_block (a:=⟨b,o,none⟩) (Gg (show b≠br by omega) _ _ _)
   have hz4:W4.heap.size=w3.heap.size:=by rw[hW4];exact Jm _ _ _ _
   have HB14:Hid (Below w1.heap.size w1 W4):=by unfold Hid;rw[hW4];exact Ge hbr _ _ HB13.out
   clear hW4 HR3 HD3 HB13 HU3
   obtain⟨Lq,hLq⟩:∃Lq,Lq=N+1-M:=⟨_,rfl⟩
   have hLqi:(N:Int)+1-(M:Int)=(Lq:Int):=by omega
   have hmk:=Kn Lq ω W4
   obtain⟨W5,hW5⟩:∃W5,W5=W4.alloc (.cells (Mi (List.replicate Lq 0)) 155):=⟨_,rfl⟩
   rw[<-hW5] at hmk
   obtain⟨bq,hbq⟩:∃bq,bq=W4.heap.size:=⟨_,rfl⟩
   rw[<-hbq] at hmk
   obtain⟨R0,hR0⟩:∃R0,R0=put (List.replicate (N+1) 0) 0 (Al U):=⟨_,rfl⟩
   rw[<-hR0] at HR4
   have hR0l:R0.length=N+1:=by rw[hR0,Kx (by simp;exact HKU.out)];simp
   have hR0v:val R0=U:=by
    have:=kC (ls:=List.replicate (N+1) 0) (xs:=Al U) (j:=0) (by simp;exact HKU.out)
    rw[List.drop_zero,List.take_replicate,Tb,Tb,Df,Nat.pow_zero,<-hR0] at this
    omega
   have HJ0:Hid (qE w1 N M D U br bq (.slice (some ⟨bd,od,none⟩) M cd) bd Lq (List.replicate Lq 0) R0 W5):=by
    refine⟨by rw[hW5];exact HR4.out.alloc _,by rw[hW5,hbq];exact Bo.made _ _ _,by rw[hW5];exact HD4.out.below ((Below.refl _ _).alloc ω _),by rw[hW5];simp;omega,by rw[hW5];exact HB14.out.alloc HB14.out.size _,⟨Iq.zeros _,?_,?_,?_,?_⟩,hR0l,by simp[hLq]⟩
    · rw[hR0];exact kB (Iq.zeros _) (Di _)
    · rw[Tb,hR0v,Nat.zero_mul,Nat.zero_add]
    · rw[hR0v,hLq];exact HQS.out.1
    · intro t _;exact Rc _ _
   have hqr:bq≠br:=by omega
   have hqd:bq≠bd:=by omega
   have HBQ:Hid (w1.heap.size<=bq):=by unfold Hid;rw[hbq];exact HB14.out.size
   have hLqn:Lq+M=N+1:=by omega
   clear hR0 hR0l hR0v hLq hbq hW5 HR4 HD4 HB14 hz4 hz3
   go_wp2_with (rw[hcp])
   clear hcp hmk gm
   go_loopw [13,14,15,16,17] (λjv _ _ _ _ wr=>∃(i:Nat) (qs ls:List Nat),i<=Lq/\jv= .int .i64 ((i:Int)-1)/\Hid (qE w1 N M D U br bq (.slice (some ⟨bd,od,none⟩) M cd) bd i qs ls wr)) (λjv _ _ _ _ _=>(intOf jv+1).toNat)
   case atStart=>exact⟨Lq,_,_,Nat.le_refl _,rfl,HJ0⟩
   case round=>
    obtain⟨i,qs,ls,hi,rfl,HJ⟩:=hrel
    clear HJ0
    have HLL:Hid (ls.length=N+1):=HJ.out.rl
    have HQL:Hid (qs.length=N+1-M):=HJ.out.ql
    by_cases hi0:i=0
    ·
     subst hi0
     have HV:=Lib.hid HJ.out.j.fin
     have hbw:=HJ.out.below
     have HT1:=Lib.hid (Pd HJ.out.q HJ.out.j.qdig (j:=0) (n:=Lq) (c:=Lq) (m:=n/m) (by rw[HQL.out];omega) ω (Nat.le_refl _) (by rw[List.drop_zero,List.take_of_length_le (by rw[HQL.out];omega),HV.out.1,HSC.out.1]))
     have HT2:=Lib.hid (Pd HJ.out.r HJ.out.j.ldig (j:=0) (n:=N+1) (c:=N+1) (m:=U%D) (by rw[HLL.out];omega) ω (Nat.le_refl _) (by rw[List.drop_zero,List.take_of_length_le (by rw[HLL.out];omega)];exact HV.out.2))
     have HUD:Hid ((Al (U%D)).length<=N+1):=Nat.le_trans (Lk (Nat.mod_le _ _)) HKU.out
     have HSR:Hid (∀v,Bi wr 0 wr.heap.size v (U%D)->Calls Tryz.prog 167 #[v,.int .i64 (b:Int)] wr (Dn wr (n%m))):=λv hv=>by
      rw[<-HSC.out.2]
      exact AdN (U%D) b v 0 wr.heap.size wr hv (Nat.le_refl _) (by have:=HUD.out;omega) ω
     have HBW:=Lib.hid hbw
     clear HJ hbw
     go_wp2_with fail
     refine HT1.out.mono ?_
     rintro e wz ⟨vq,rfl,hq,rfl⟩
     have HQ:=Lib.hid hq
     clear hq
     go_wp2_with fail
     refine HT2.out.mono ?_
     rintro e wz ⟨vr,rfl,hr,rfl⟩
     have HR':=Lib.hid (HSR.out vr hr)
     clear hr
     go_wp2_with fail
     refine HR'.out.mono ?_
     rintro e wz ⟨vs,rfl,hs,hbz⟩
     have HS:=Lib.hid hs
     have HBZ:=Lib.hid hbz
     clear hs hbz
     go_wp2_with fail
     go_ret2
     exact⟨_,_,rfl,HQ.out.up (Nat.le_refl _) HBZ.out,HS.out.more (Nat.zero_le _) (Nat.le_refl _),hb1.trans ((HBW.out.trans (HBZ.out.mono HBW.out.size)).mono ω)⟩
    ·
     obtain⟨j,rfl⟩:∃j,i=j+1:=⟨i-1,ω⟩
     have hjs:((j+1:Nat):Int)-1=(j:Int):=by omega
     rw[hjs]
     have hj0:(0:Int)<=(j:Int):=by omega
     clear hjs hi0
     have hjM:j+M<N+1:=by omega
     obtain⟨W,HW⟩:∃W,Hid (W=val ls/Bw^j):=⟨_,rfl⟩
     have hDk:D<Bw^M:=by rw[<-HK.out];exact jM
     have HDK:=Lib.hid hDk
     have hwv:=Zv HJ.out.j.ldig HJ.out.j.lt hDk
     have hge:=Abk HJ.out.j.ldig HJ.out.j.lt HK.out hMp
     have hmax:=fF HJ.out.j.ldig HJ.out.j.lt hDk
     rw[<-HW.out] at hwv hge hmax
     have HWV:=Lib.hid hwv
     have HGE:=Lib.hid hge
     have HMAX:=Lib.hid hmax
     have gt:wr.cell? ⟨br,j+M,none⟩=some (.int .u64 (dg ls (j+M):Int)):=HJ.out.r.cell (by rw[HLL.out];exact hjM)
     have gn:wr.cell? ⟨br,j+(M-1),none⟩=some (.int .u64 (dg ls (j+(M-1)):Int)):=HJ.out.r.cell (by rw[HLL.out];omega)
     have gd:wr.cell? ⟨bd,od+(M-1),none⟩=some (.int .u64 (dg (Al D) (M-1):Int)):=by
      rcases HJ.out.d.1.2 with⟨_,_,_,h0⟩|⟨_,_,_,e,_,hc⟩
      · rw[HK.out] at h0;omega
      · cases e;exact hc _ _ (Ds _ _ (by rw[HK.out];omega))
     have htl:=Ij HJ.out.j.ldig (j+M)
     have hnl:=Ij HJ.out.j.ldig (j+(M-1))
     have hdl:=Ij (Di D) (M-1)
     have HDIV:Hid (dg ls (j+M)<dg (Al D) (M-1)->∀wz,Calls Tryz.prog 166 _ wz _):=λh wz=>eS _ _ _ h hdl hnl wz
     have HFIT:Hid (dg ls (j+M)<dg (Al D) (M-1)->_):=λh=>Hi h hnl
     generalize dg ls (j+M)=tp at*
     generalize dg ls (j+(M-1))=nx at*
     generalize dg (Al D) (M-1)=dt at*
     clear hwv hge hmax hDk htl hnl hdl
     have hjMi:(j:Int)+(M:Int)<(N:Int)+1:=by omega
     have hM1i:(M:Int)-1<(M:Int):=by omega
     have hM1:(M:Int)-1=((M-1:Nat):Int):=by omega
     by_cases hlt2:tp<dt
     ·
      have hlti:(tp:Int)<(dt:Int):=by omega
      have HDV:=Lib.hid (HDIV.out hlt2)
      have HFT:=Lib.hid (HFIT.out hlt2)
      clear HDIV HFIT hlt2
      obtain⟨g,HG⟩:∃g,Hid (g=(tp*Bw+nx)/dt):=⟨_,rfl⟩
      obtain⟨gr,HGR⟩:∃g,Hid (g=(tp*Bw+nx)%dt):=⟨_,rfl⟩
      rw[<-HG.out] at HGE HFT HDV
      rw[<-HGR.out] at HDV
      obtain⟨t0,ht0⟩:∃t0,t0=j+M:=⟨_,rfl⟩
      obtain⟨t1,ht1⟩:∃t1,t1=j+(M-1):=⟨_,rfl⟩
      go_wp2_with fail
      go_region
      obtain⟨wd,hwd⟩:∃wd,wd=wr.drew:=⟨_,rfl⟩
      rw[<-hwd]
      have HJD:Hid (qE w1 N M D U br bq (.slice (some ⟨bd,od,none⟩) M cd) bd (j+1) qs ls wd):=by
       rw[hwd];exact⟨HJ.out.r.drew,HJ.out.q.drew,HJ.out.d.drewN 1,HJ.out.hd,HJ.out.below.drew,HJ.out.j,HJ.out.rl,HJ.out.ql⟩
      have gt':wd.cell? ⟨br,t0,none⟩=some (.int .u64 (tp:Int)):=by rw[hwd,ht0];exact gt
      have gn':wd.cell? ⟨br,t1,none⟩=some (.int .u64 (nx:Int)):=by rw[hwd,ht1];exact gn
      have gd':wd.cell? ⟨bd,od+(M-1),none⟩=some (.int .u64 (dt:Int)):=by rw[hwd];exact gd
      have hjw:IntKind.i64.wrap ((j:Int)+(M:Int))=(t0:Int):=by rw[ht0];rw[IntWalk.i64_in _ ω];omega
      have hjw1:IntKind.i64.wrap ((t0:Int)-1)=(t1:Int):=by rw[ht0,ht1];rw[IntWalk.i64_in _ ω];omega
      have hmw1:IntKind.i64.wrap ((M:Int)-1)=((M-1:Nat):Int):=by rw[IntWalk.i64_in _ ω];omega
      have h0i:(t0:Int)<(N:Int)+1:=by omega
      have h1i:(t1:Int)<(N:Int)+1:=by omega
      have HT0:=Lib.hid ht0
      clear hwd gt gn gd HJ ht0 ht1
      go_wp2_with fail
      go_quiet (first|exact Calls.quiet_of (HDV.out _)|(trace_state;fail))
      obtain⟨w6,hw6⟩:∃w6,w6=wd.drewN nq:=⟨_,rfl⟩
      rw[<-hw6]
      have HJ6:Hid (qE w1 N M D U br bq (.slice (some ⟨bd,od,none⟩) M cd) bd (j+1) qs ls w6):=by
       rw[hw6];exact⟨HJD.out.r.drewN nq,HJD.out.q.drewN nq,HJD.out.d.drewN nq,HJD.out.hd,Ka HJD.out.below nq,HJD.out.j,HJD.out.rl,HJD.out.ql⟩
      clear hw6 HJD gt' gn' gd' HDV HG HGR
      have hgB:g<Bw:=HFT.out
      have HGB:=Lib.hid hgB
      clear hgB HFT
      have hs1:(j:Int)<=(t0:Int)+1:=by have:=HT0.out;omega
      have hs2:(t0:Int)+1<=(N:Int)+1:=by have:=HT0.out;omega
      have hwl:t0+1-j=M+1:=by have:=HT0.out;omega
      have hwl2:(t0:Int)+1-(j:Int)=(M:Int)+1:=by have:=HT0.out;omega
      have HTR:=Lib.hid (λt=>Wr w6 g HGB.out t)
      go_wp2_with fail
      refine(HTR.out _).mono ?_
      rintro e w7 ⟨vg,rfl,hvg,hb67⟩
      have HVG:=Lib.hid hvg
      clear hvg HTR
      have HMUL:=Lib.hid (jO D g (.slice (some ⟨bd,od,none⟩) M cd) vg bd (bd+1) w6.heap.size w7.heap.size w7 (HJ6.out.d.below (hb67.mono HJ6.out.hd)) HVG.out (Nat.lt_of_lt_of_le HJ6.out.hd hb67.size) (Nat.le_refl _) (by rw[HK.out];omega) (by
       have:=Fn (n:=g) (k:=1) (by rw[Nat.pow_one];exact HGB.out)
       omega))
      go_wp2_with fail
      refine HMUL.out.mono ?_
      rintro e w8 ⟨vp,rfl,hvp,hb78⟩
      have HI0:Hid (wN w6 D W g vp w8):=⟨HGE.out,HGB.out,by rw[Nat.mul_comm];exact hvp.more (Nat.zero_le _) (Nat.le_refl _),hb67.trans (hb78.mono hb67.size)⟩
      have HWN:Hid (val ((ls.drop j).take (M+1))=W):=HWV.out.1
      clear hvp hb78 hb67 HMUL HVG HGE HGB hs1 hs2 hwl hwl2
      go_wp2_with fail
      go_loopw [14,16] (λgv pv wq=>∃g:Nat,gv= .int .u64 (g:Int)/\Hid (wN w6 D W g pv wq)) (λgv _ _=>(intOf gv).toNat)
      case atStart=>exact⟨g,rfl,HI0⟩
      case round=>
       obtain⟨gq,rfl,HI⟩:=hrel
       clear HI0
       obtain⟨pv,hpv⟩:∃pv,pv=u16:=⟨_,rfl⟩
       rw[<-hpv] at HI ⊢
       clear hpv
       have hbq:=HI.out.below
       have HRQ:Hid (Bo wr br ls):=HJ6.out.r.below hbq HJ6.out.r.lt
       have HTW:=Lib.hid (Pd HRQ.out HJ6.out.j.ldig (j:=j) (n:=M+1) (c:=N+1-j) (m:=W) (by rw[HLL.out];omega) ω ω HWN.out)
       have HGD:Hid ((Al (gq*D)).length<=M+1):=by
        apply Fn
        rw[Nat.pow_succ,Nat.mul_comm]
        exact Nat.mul_lt_mul'' HDK.out HI.out.lt
       have HWD:Hid ((Al W).length<=M+1):=by
        apply Fn
        rw[Nat.pow_succ]
        exact Nat.lt_of_lt_of_le HWV.out.2 (Nat.mul_le_mul_right _ (Nat.le_of_lt HDK.out))
       have HBQ6:=Lib.hid hbq
       clear hbq
       go_wp2_with fail
       refine HTW.out.mono ?_
       rintro e w' ⟨vw,rfl,hvw,rfl⟩
       have HVW:=Lib.hid hvw
       clear hvw
       have HCM:=Lib.hid (Ns W (gq*D) vw pv 0 wr.heap.size 0 wr.heap.size wr HVW.out HI.out.part (by have:=HWD.out;omega) (by have:=HGD.out;omega))
       go_wp2_with fail
       refine HCM.out.mono ?_
       rintro e w' ⟨r2,q2,rfl,hw9,HR2⟩
       obtain⟨w9,hw9'⟩:∃w9,w9=wr.drewN q2:=⟨_,rfl⟩
       rw[<-hw9'] at hw9
       subst hw9
       have HB9:Hid (Below wr.heap.size wr w'):=by rw[hw9'];exact Ka (Below.refl _ _) q2
       have hz9:w'.heap.size=wr.heap.size:=by rw[hw9'];simp
       have HVW9:Hid (Bi w' 0 w'.heap.size vw W):=by rw[hz9,hw9'];exact HVW.out.drewN q2
       have HP9:Hid (Bi w' 0 w'.heap.size pv (gq*D)):=by rw[hz9,hw9'];exact HI.out.part.drewN q2
       have HB69:Hid (Below w6.heap.size w6 w'):=HBQ6.out.trans (HB9.out.mono HBQ6.out.size)
       have HD9:Hid (Bi w' bd (bd+1) (.slice (some ⟨bd,od,none⟩) M cd) D):=HJ6.out.d.below (HB69.out.mono HJ6.out.hd)
       have hbd9:bd<w'.heap.size:=Nat.lt_of_lt_of_le HJ6.out.hd HB69.out.size
       have HR9:Hid (Bo w' br ls):=HJ6.out.r.below HB69.out HJ6.out.r.lt
       clear hw9'
       by_cases hr2:r2<0
       ·
        have hlt3:W<gq*D:=HR2.lt.1 hr2
        have HGM:Hid (0<gq/\W/D<=gq-1):=by
         have:W/D<gq:=Nat.div_lt_of_lt_mul (by rw[Nat.mul_comm];exact hlt3)
         exact⟨Nat.lt_of_le_of_lt (Nat.zero_le _) this,Nat.le_pred_of_lt this⟩
        have HSUB:=Lib.hid (Qd (gq*D) D pv (.slice (some ⟨bd,od,none⟩) M cd) 0 w'.heap.size bd (bd+1) w' HP9.out HD9.out (Nat.le_refl _) hbd9 (by have:=HGD.out;omega) (Nat.le_mul_of_pos_left _ HGM.out.1))
        obtain⟨gp,hgp⟩:∃gp,gp=gq-1:=⟨_,rfl⟩
        have hgw:IntKind.u64.wrap ((gq:Int)-1)=(gp:Int):=by rw[hgp];exact Mq HI.out.lt HGM.out.1
        have hgpl:gp<gq:=by have:=HGM.out.1;omega
        have HNX:Hid (∀v w2,Bi w2 w'.heap.size w2.heap.size v (gq*D-D)->Below w'.heap.size w' w2->wN w6 D W gp v w2):=λv w2 h1 h2=>by
         refine⟨by rw[hgp];exact HGM.out.2,Nat.lt_trans hgpl HI.out.lt,?_,HB69.out.trans (h2.mono HB69.out.size)⟩
         have e:gp*D=gq*D-D:=by rw[hgp,Nat.sub_mul,Nat.one_mul]
         rw[e];exact h1.more (Nat.zero_le _) (Nat.le_refl _)
        clear hgp hlt3 HR2
        go_wp2_with fail
        refine HSUB.out.mono ?_
        rintro e w10 ⟨v10,rfl,hv10,hb10⟩
        have HN10:=Lib.hid (HNX.out v10 w10 hv10 hb10)
        clear hv10 hb10
        go_wp2_with fail
        exact⟨⟨gp,rfl,HN10⟩,by simp only[intOf];omega⟩
       ·
        have hge3:¬W<gq*D:=λh=>hr2 (HR2.lt.2 h)
        have HGE2:Hid (gq=W/D):=by
         refine Nat.le_antisymm ?_ HI.out.ge
         rw[Nat.le_div_iff_mul_le HDN.out];omega
        have HTW9:=Lib.hid (Pd HR9.out HJ6.out.j.ldig (j:=j) (n:=M+1) (c:=N+1-j) (m:=W) (by rw[HLL.out];omega) ω ω HWN.out)
        have HGLE:Hid (gq*D<=W):=by unfold Hid;omega
        clear hge3 HR2 HTW HCM HVW HVW9
        go_wp2_with fail
        refine HTW9.out.mono ?_
        rintro e wz ⟨vw2,rfl,hvw2,rfl⟩
        have HSUB:=Lib.hid (Qd W (gq*D) vw2 pv 0 w'.heap.size 0 w'.heap.size w' hvw2 HP9.out (Nat.le_refl _) (Nat.le_refl _) (by have:=HWD.out;omega) HGLE.out)
        clear hvw2
        go_wp2_with fail
        refine HSUB.out.mono ?_
        rintro e w10 ⟨vl,rfl,hvl,hb10⟩
        obtain⟨Z,HZ⟩:∃Z,Hid (Z=W-gq*D):=⟨_,rfl⟩
        rw[<-HZ.out] at hvl
        have hz10:=hb10.size
        have hz69:=HB69.out.size
        have hbr6:=HJ6.out.r.lt
        have hbq6:=HJ6.out.q.lt
        have hbd6:=HJ6.out.hd
        have HB610:Hid (Below w6.heap.size w6 w10):=HB69.out.trans (hb10.mono hz69)
        have HR10:Hid (Bo w10 br ls):=HJ6.out.r.below HB610.out hbr6
        have HQ10:Hid (Bo w10 bq qs):=HJ6.out.q.below HB610.out hbq6
        have HD10:Hid (Bi w10 bd (bd+1) (.slice (some ⟨bd,od,none⟩) M cd) D):=HJ6.out.d.below (HB610.out.mono hbd6)
        have HZL:Hid ((Al Z).length<=M+1):=by
         unfold Hid
         rw[HZ.out]
         exact Nat.le_trans (Lk (Nat.sub_le _ _)) HWD.out
        have hcl:=λty=>Pb w10 ty br j (M+1) (N+1-j) ls HR10.out (by rw[HLL.out];omega) ω
        obtain⟨w11,hw11⟩:∃w11,w11=w10.setCells br j (Iz (List.replicate (M+1) 0)):=⟨_,rfl⟩
        rw[<-hw11] at hcl
        have HR11:Hid (Bo w11 br (put ls j (List.replicate (M+1) 0))):=by
         unfold Hid;rw[hw11];exact Bo.setCells _ HR10.out (by simp;rw[HLL.out];omega)
        have HVL11:Hid (Bi w11 w'.heap.size w10.heap.size vl Z):=by
         unfold Hid;rw[hw11]
         refine⟨hvl.1.keep λb o h1 h2=>?_,hvl.2⟩
         exact World.cell?_of_block (a:=⟨b,o,none⟩) (Gg (show b≠br by omega) _ _ _)
        have HQ11:Hid (Bo w11 bq qs):=by unfold Hid;rw[hw11];exact Bo.otherCells hqr _ _ HQ10.out
        have HD11:Hid (Bi w11 bd (bd+1) (.slice (some ⟨bd,od,none⟩) M cd) D):=by
         unfold Hid;rw[hw11]
         refine⟨HD10.out.1.keep λb o h1 h2=>?_,HD10.out.2⟩
         exact World.cell?_of_block (a:=⟨b,o,none⟩) (Gg (show b≠br by omega) _ _ _)
        have HB11:Hid (Below w1.heap.size w1 w11):=by
         unfold Hid;rw[hw11];exact Ge hbr _ _ (HJ6.out.below.trans (HB610.out.mono HJ6.out.below.size))
        have hz11:w11.heap.size=w10.heap.size:=by rw[hw11];exact Jm _ _ _ _
        have hpl:(put ls j (List.replicate (M+1) 0)).length=N+1:=by rw[Kx (by simp;rw[HLL.out];omega)];exact HLL.out
        have hcp:=λty=>Lt w11 ty br j (M+1) (N+1-j) _ HR11.out (by rw[hpl];omega) vl Z _ _ HVL11.out HZL.out
        obtain⟨w12,hw12⟩:∃w12,w12=w11.setCells br j (Iz (Al Z)):=⟨_,rfl⟩
        rw[<-hw12] at hcp
        obtain⟨l2,HL2⟩:∃l2,Hid (l2=put (put ls j (List.replicate (M+1) 0)) j (Al Z)):=⟨_,rfl⟩
        have HR12:Hid (Bo w12 br l2):=by
         unfold Hid;rw[hw12,HL2.out];exact Bo.setCells _ HR11.out (by rw[hpl];have:=HZL.out;omega)
        have HQ12:Hid (Bo w12 bq qs):=by unfold Hid;rw[hw12];exact Bo.otherCells hqr _ _ HQ11.out
        have HD12:Hid (Bi w12 bd (bd+1) (.slice (some ⟨bd,od,none⟩) M cd) D):=by
         unfold Hid;rw[hw12]
         refine⟨HD11.out.1.keep λb o h1 h2=>?_,HD11.out.2⟩
         exact World.cell?_of_block (a:=⟨b,o,none⟩) (Gg (show b≠br by omega) _ _ _)
        have HB12:Hid (Below w1.heap.size w1 w12):=by unfold Hid;rw[hw12];exact Ge hbr _ _ HB11.out
        have hz12:w12.heap.size=w10.heap.size:=by rw[hw12,Jm];exact hz11
        have HJN:Hid (qE w1 N M D U br bq (.slice (some ⟨bd,od,none⟩) M cd) bd j (qs.set j gq) l2 (w12.setCell ⟨bq,j,none⟩ (.int .u64 (gq:Int)))):=by
         refine⟨HR12.out.other ⟨bq,j,none⟩ _ (Ne.symm hqr),HQ12.out.set j gq,⟨HD12.out.1.set ⟨bq,j,none⟩ _ (show bq<bd\/bd+1<=bq by omega),HD12.out.2⟩,by simp[World.setCell];omega,HB12.out.setCell HBQ.out _,?_,?_,by rw[List.length_set];exact HQL.out⟩
         ·
          rw[HL2.out,HZ.out,HW.out]
          refine HJ6.out.j.step HDK.out (by rw[HQL.out];omega) (by rw[HLL.out];omega) ?_
          rw[<-HW.out];exact HGE2.out
         · rw[HL2.out,Kx (by rw[hpl];have:=HZL.out;omega),hpl]
        have gq12:w12.cell? ⟨bq,j,none⟩=some (.int .u64 (dg qs j:Int)):=HQ12.out.cell (by rw[HQL.out];omega)
        have gqf:=HQ12.out.frozen j
        have hjLq:(j:Int)<(Lq:Int):=by omega
        generalize dg qs j=dq at*
        clear hw11 hw12 hpl hvl hb10 HSUB HTW9
        go_wp2_with (first|rw[hcl]|rw[hcp])
        exact⟨⟨j,_,_,ω,rfl,HJN⟩,by simp only[intOf];omega⟩
     ·
      have hlti:¬(tp:Int)<(dt:Int):=by omega
      obtain⟨t0,ht0⟩:∃t0,t0=j+M:=⟨_,rfl⟩
      have HT0:=Lib.hid ht0
      clear ht0 HDIV HFIT HGE
      go_wp2_with fail
      go_region
      obtain⟨w6,hw6⟩:∃wd,wd=wr.drew:=⟨_,rfl⟩
      rw[<-hw6]
      have HJ6:Hid (qE w1 N M D U br bq (.slice (some ⟨bd,od,none⟩) M cd) bd (j+1) qs ls w6):=by
       rw[hw6];exact⟨HJ.out.r.drew,HJ.out.q.drew,HJ.out.d.drewN 1,HJ.out.hd,HJ.out.below.drew,HJ.out.j,HJ.out.rl,HJ.out.ql⟩
      have hjw:IntKind.i64.wrap ((j:Int)+(M:Int))=(t0:Int):=by rw[HT0.out];rw[IntWalk.i64_in _ ω];omega
      clear hw6 HJ gt gn gd
      obtain⟨g,HG⟩:∃g,Hid (g=Bw-1):=⟨_,rfl⟩
      have HGB:Hid (g<Bw):=by unfold Hid;rw[HG.out];have:=aD;omega
      have HGE:Hid (W/D<=g):=by rw[HG.out];exact HMAX.out
      obtain⟨G,hG⟩:∃G:Int,G=(g:Int):=⟨_,rfl⟩
      have HGL:Hid ((18446744073709551615:Int)=G):=by rw[hG];exact Adn HG.out
      generalize (18446744073709551615:Int)=GL at*
      have hgl:=HGL.out
      subst hgl
      rw[hG]
      clear HG HGL hG
      have hs1:(j:Int)<=(t0:Int)+1:=by have:=HT0.out;omega
      have hs2:(t0:Int)+1<=(N:Int)+1:=by have:=HT0.out;omega
      have hwl:t0+1-j=M+1:=by have:=HT0.out;omega
      have hwl2:(t0:Int)+1-(j:Int)=(M:Int)+1:=by have:=HT0.out;omega
      have HTR:=Lib.hid (λt=>Wr w6 g HGB.out t)
      go_wp2_with fail
      refine(HTR.out _).mono ?_
      rintro e w7 ⟨vg,rfl,hvg,hb67⟩
      have HVG:=Lib.hid hvg
      clear hvg HTR
      have HMUL:=Lib.hid (jO D g (.slice (some ⟨bd,od,none⟩) M cd) vg bd (bd+1) w6.heap.size w7.heap.size w7 (HJ6.out.d.below (hb67.mono HJ6.out.hd)) HVG.out (Nat.lt_of_lt_of_le HJ6.out.hd hb67.size) (Nat.le_refl _) (by rw[HK.out];omega) (by
       have:=Fn (n:=g) (k:=1) (by rw[Nat.pow_one];exact HGB.out)
       omega))
      go_wp2_with fail
      refine HMUL.out.mono ?_
      rintro e w8 ⟨vp,rfl,hvp,hb78⟩
      have HI0:Hid (wN w6 D W g vp w8):=⟨HGE.out,HGB.out,by rw[Nat.mul_comm];exact hvp.more (Nat.zero_le _) (Nat.le_refl _),hb67.trans (hb78.mono hb67.size)⟩
      have HWN:Hid (val ((ls.drop j).take (M+1))=W):=HWV.out.1
      clear hvp hb78 hb67 HMUL HVG HGE HGB hs1 hs2 hwl hwl2
      go_wp2_with fail
      go_loopw [14,16] (λgv pv wq=>∃g:Nat,gv= .int .u64 (g:Int)/\Hid (wN w6 D W g pv wq)) (λgv _ _=>(intOf gv).toNat)
      case atStart=>exact⟨g,rfl,HI0⟩
      case round=>
       obtain⟨gq,rfl,HI⟩:=hrel
       clear HI0
       obtain⟨pv,hpv⟩:∃pv,pv=u16:=⟨_,rfl⟩
       rw[<-hpv] at HI ⊢
       clear hpv
       have hbq:=HI.out.below
       have HRQ:Hid (Bo wr br ls):=HJ6.out.r.below hbq HJ6.out.r.lt
       have HTW:=Lib.hid (Pd HRQ.out HJ6.out.j.ldig (j:=j) (n:=M+1) (c:=N+1-j) (m:=W) (by rw[HLL.out];omega) ω ω HWN.out)
       have HGD:Hid ((Al (gq*D)).length<=M+1):=by
        apply Fn
        rw[Nat.pow_succ,Nat.mul_comm]
        exact Nat.mul_lt_mul'' HDK.out HI.out.lt
       have HWD:Hid ((Al W).length<=M+1):=by
        apply Fn
        rw[Nat.pow_succ]
        exact Nat.lt_of_lt_of_le HWV.out.2 (Nat.mul_le_mul_right _ (Nat.le_of_lt HDK.out))
       have HBQ6:=Lib.hid hbq
       clear hbq
       go_wp2_with fail
       refine HTW.out.mono ?_
       rintro e w' ⟨vw,rfl,hvw,rfl⟩
       have HVW:=Lib.hid hvw
       clear hvw
       have HCM:=Lib.hid (Ns W (gq*D) vw pv 0 wr.heap.size 0 wr.heap.size wr HVW.out HI.out.part (by have:=HWD.out;omega) (by have:=HGD.out;omega))
       go_wp2_with fail
       refine HCM.out.mono ?_
       rintro e w' ⟨r2,q2,rfl,hw9,HR2⟩
       obtain⟨w9,hw9'⟩:∃w9,w9=wr.drewN q2:=⟨_,rfl⟩
       rw[<-hw9'] at hw9
       subst hw9
       have HB9:Hid (Below wr.heap.size wr w'):=by rw[hw9'];exact Ka (Below.refl _ _) q2
       have hz9:w'.heap.size=wr.heap.size:=by rw[hw9'];simp
       have HVW9:Hid (Bi w' 0 w'.heap.size vw W):=by rw[hz9,hw9'];exact HVW.out.drewN q2
       have HP9:Hid (Bi w' 0 w'.heap.size pv (gq*D)):=by rw[hz9,hw9'];exact HI.out.part.drewN q2
       have HB69:Hid (Below w6.heap.size w6 w'):=HBQ6.out.trans (HB9.out.mono HBQ6.out.size)
       have HD9:Hid (Bi w' bd (bd+1) (.slice (some ⟨bd,od,none⟩) M cd) D):=HJ6.out.d.below (HB69.out.mono HJ6.out.hd)
       have hbd9:bd<w'.heap.size:=Nat.lt_of_lt_of_le HJ6.out.hd HB69.out.size
       have HR9:Hid (Bo w' br ls):=HJ6.out.r.below HB69.out HJ6.out.r.lt
       clear hw9'
       by_cases hr2:r2<0
       ·
        have hlt3:W<gq*D:=HR2.lt.1 hr2
        have HGM:Hid (0<gq/\W/D<=gq-1):=by
         have:W/D<gq:=Nat.div_lt_of_lt_mul (by rw[Nat.mul_comm];exact hlt3)
         exact⟨Nat.lt_of_le_of_lt (Nat.zero_le _) this,Nat.le_pred_of_lt this⟩
        have HSUB:=Lib.hid (Qd (gq*D) D pv (.slice (some ⟨bd,od,none⟩) M cd) 0 w'.heap.size bd (bd+1) w' HP9.out HD9.out (Nat.le_refl _) hbd9 (by have:=HGD.out;omega) (Nat.le_mul_of_pos_left _ HGM.out.1))
        obtain⟨gp,hgp⟩:∃gp,gp=gq-1:=⟨_,rfl⟩
        have hgw:IntKind.u64.wrap ((gq:Int)-1)=(gp:Int):=by rw[hgp];exact Mq HI.out.lt HGM.out.1
        have hgpl:gp<gq:=by have:=HGM.out.1;omega
        have HNX:Hid (∀v w2,Bi w2 w'.heap.size w2.heap.size v (gq*D-D)->Below w'.heap.size w' w2->wN w6 D W gp v w2):=λv w2 h1 h2=>by
         refine⟨by rw[hgp];exact HGM.out.2,Nat.lt_trans hgpl HI.out.lt,?_,HB69.out.trans (h2.mono HB69.out.size)⟩
         have e:gp*D=gq*D-D:=by rw[hgp,Nat.sub_mul,Nat.one_mul]
         rw[e];exact h1.more (Nat.zero_le _) (Nat.le_refl _)
        clear hgp hlt3 HR2
        go_wp2_with fail
        refine HSUB.out.mono ?_
        rintro e w10 ⟨v10,rfl,hv10,hb10⟩
        have HN10:=Lib.hid (HNX.out v10 w10 hv10 hb10)
        clear hv10 hb10
        go_wp2_with fail
        exact⟨⟨gp,rfl,HN10⟩,by simp only[intOf];omega⟩
       ·
        have hge3:¬W<gq*D:=λh=>hr2 (HR2.lt.2 h)
        have HGE2:Hid (gq=W/D):=by
         refine Nat.le_antisymm ?_ HI.out.ge
         rw[Nat.le_div_iff_mul_le HDN.out];omega
        have HTW9:=Lib.hid (Pd HR9.out HJ6.out.j.ldig (j:=j) (n:=M+1) (c:=N+1-j) (m:=W) (by rw[HLL.out];omega) ω ω HWN.out)
        have HGLE:Hid (gq*D<=W):=by unfold Hid;omega
        clear hge3 HR2 HTW HCM HVW HVW9
        go_wp2_with fail
        refine HTW9.out.mono ?_
        rintro e wz ⟨vw2,rfl,hvw2,rfl⟩
        have HSUB:=Lib.hid (Qd W (gq*D) vw2 pv 0 w'.heap.size 0 w'.heap.size w' hvw2 HP9.out (Nat.le_refl _) (Nat.le_refl _) (by have:=HWD.out;omega) HGLE.out)
        clear hvw2
        go_wp2_with fail
        refine HSUB.out.mono ?_
        rintro e w10 ⟨vl,rfl,hvl,hb10⟩
        obtain⟨Z,HZ⟩:∃Z,Hid (Z=W-gq*D):=⟨_,rfl⟩
        rw[<-HZ.out] at hvl
        have hz10:=hb10.size
        have hz69:=HB69.out.size
        have hbr6:=HJ6.out.r.lt
        have hbq6:=HJ6.out.q.lt
        have hbd6:=HJ6.out.hd
        have HB610:Hid (Below w6.heap.size w6 w10):=HB69.out.trans (hb10.mono hz69)
        have HR10:Hid (Bo w10 br ls):=HJ6.out.r.below HB610.out hbr6
        have HQ10:Hid (Bo w10 bq qs):=HJ6.out.q.below HB610.out hbq6
        have HD10:Hid (Bi w10 bd (bd+1) (.slice (some ⟨bd,od,none⟩) M cd) D):=HJ6.out.d.below (HB610.out.mono hbd6)
        have HZL:Hid ((Al Z).length<=M+1):=by
         unfold Hid
         rw[HZ.out]
         exact Nat.le_trans (Lk (Nat.sub_le _ _)) HWD.out
        have hcl:=λty=>Pb w10 ty br j (M+1) (N+1-j) ls HR10.out (by rw[HLL.out];omega) ω
        obtain⟨w11,hw11⟩:∃w11,w11=w10.setCells br j (Iz (List.replicate (M+1) 0)):=⟨_,rfl⟩
        rw[<-hw11] at hcl
        have HR11:Hid (Bo w11 br (put ls j (List.replicate (M+1) 0))):=by
         unfold Hid;rw[hw11];exact Bo.setCells _ HR10.out (by simp;rw[HLL.out];omega)
        have HVL11:Hid (Bi w11 w'.heap.size w10.heap.size vl Z):=by
         unfold Hid;rw[hw11]
         refine⟨hvl.1.keep λb o h1 h2=>?_,hvl.2⟩
         exact World.cell?_of_block (a:=⟨b,o,none⟩) (Gg (show b≠br by omega) _ _ _)
        have HQ11:Hid (Bo w11 bq qs):=by unfold Hid;rw[hw11];exact Bo.otherCells hqr _ _ HQ10.out
        have HD11:Hid (Bi w11 bd (bd+1) (.slice (some ⟨bd,od,none⟩) M cd) D):=by
         unfold Hid;rw[hw11]
         refine⟨HD10.out.1.keep λb o h1 h2=>?_,HD10.out.2⟩
         exact World.cell?_of_block (a:=⟨b,o,none⟩) (Gg (show b≠br by omega) _ _ _)
        have HB11:Hid (Below w1.heap.size w1 w11):=by
         unfold Hid;rw[hw11];exact Ge hbr _ _ (HJ6.out.below.trans (HB610.out.mono HJ6.out.below.size))
        have hz11:w11.heap.size=w10.heap.size:=by rw[hw11];exact Jm _ _ _ _
        have hpl:(put ls j (List.replicate (M+1) 0)).length=N+1:=by rw[Kx (by simp;rw[HLL.out];omega)];exact HLL.out
        have hcp:=λty=>Lt w11 ty br j (M+1) (N+1-j) _ HR11.out (by rw[hpl];omega) vl Z _ _ HVL11.out HZL.out
        obtain⟨w12,hw12⟩:∃w12,w12=w11.setCells br j (Iz (Al Z)):=⟨_,rfl⟩
        rw[<-hw12] at hcp
        obtain⟨l2,HL2⟩:∃l2,Hid (l2=put (put ls j (List.replicate (M+1) 0)) j (Al Z)):=⟨_,rfl⟩
        have HR12:Hid (Bo w12 br l2):=by
         unfold Hid;rw[hw12,HL2.out];exact Bo.setCells _ HR11.out (by rw[hpl];have:=HZL.out;omega)
        have HQ12:Hid (Bo w12 bq qs):=by unfold Hid;rw[hw12];exact Bo.otherCells hqr _ _ HQ11.out
        have HD12:Hid (Bi w12 bd (bd+1) (.slice (some ⟨bd,od,none⟩) M cd) D):=by
         unfold Hid;rw[hw12]
         refine⟨HD11.out.1.keep λb o h1 h2=>?_,HD11.out.2⟩
         exact World.cell?_of_block (a:=⟨b,o,none⟩) (Gg (show b≠br by omega) _ _ _)
        have HB12:Hid (Below w1.heap.size w1 w12):=by unfold Hid;rw[hw12];exact Ge hbr _ _ HB11.out
        have hz12:w12.heap.size=w10.heap.size:=by rw[hw12,Jm];exact hz11
        have HJN:Hid (qE w1 N M D U br bq (.slice (some ⟨bd,od,none⟩) M cd) bd j (qs.set j gq) l2 (w12.setCell ⟨bq,j,none⟩ (.int .u64 (gq:Int)))):=by
         refine⟨HR12.out.other ⟨bq,j,none⟩ _ (Ne.symm hqr),HQ12.out.set j gq,⟨HD12.out.1.set ⟨bq,j,none⟩ _ (show bq<bd\/bd+1<=bq by omega),HD12.out.2⟩,by simp[World.setCell];omega,HB12.out.setCell HBQ.out _,?_,?_,by rw[List.length_set];exact HQL.out⟩
         ·
          rw[HL2.out,HZ.out,HW.out]
          refine HJ6.out.j.step HDK.out (by rw[HQL.out];omega) (by rw[HLL.out];omega) ?_
          rw[<-HW.out];exact HGE2.out
         · rw[HL2.out,Kx (by rw[hpl];have:=HZL.out;omega),hpl]
        have gq12:w12.cell? ⟨bq,j,none⟩=some (.int .u64 (dg qs j:Int)):=HQ12.out.cell (by rw[HQL.out];omega)
        have gqf:=HQ12.out.frozen j
        have hjLq:(j:Int)<(Lq:Int):=by omega
        generalize dg qs j=dq at*
        clear hw11 hw12 hpl hvl hb10 HSUB HTW9
        go_wp2_with (first|rw[hcl]|rw[hcp])
        exact⟨⟨j,_,_,ω,rfl,HJN⟩,by simp only[intOf];omega⟩
end Go.Proofs.YtldnjomacnjhnaaGreat