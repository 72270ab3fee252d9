/- Part 13 of the proof of PH.card_holds: no condition beyond the row's. -/
import Derived.Test.YtkpjchfniejdoaaGreatDoorPH12
import Derived.IntWalk
set_option maxRecDepth 100000
set_option maxHeartbeats 40000000
namespace Go.Proofs.YtkpjchfniejdoaaGreatDoor
open Go.Proofs.Tryz
open Go.RowKit
def Dz (l:List V3) (k:Nat):V3:=l.getD k V3.zero
def oF (lo:Nat) (pts:List V3) (ts:List Int) (k:Nat) (W:World) (args:Array Value):Prop:=
 ∃cs,args=#[.agg cs.toArray]/\Mi W (rg lo W.heap.size) (Yw (Dz pts k) (Dz pts (k+1)) (ts.getD k 0) (ts.getD (k+1) 0) 2) cs
def Anf (lo:Nat) (pts:List V3) (ts:List Int) (k:Nat):Value->World->Prop:=λv w=>∃cs:List Value,v= .agg cs.toArray/\Mi w (rg lo w.heap.size) (Yw (Dz pts k) (Dz pts (k+1)) (ts.getD k 0) (ts.getD (k+1) 0) 2) cs
theorem uB (lo:Nat) (pts:List V3) (ts:List Int) (k:Nat):Qb (Anf lo pts ts k):=λ_ _ _ hb ⟨cs,e,h⟩=>
 ⟨cs,e,(h.keep λb o hd=>hb.cell (p:=⟨b,o,none⟩) hd.2).more λ_ hd=>⟨hd.1,Nat.lt_of_lt_of_le hd.2 hb.size⟩⟩
theorem wE (w:World):(sizeOf 33).run Tryz.prog w= .ok 3 w:=κ
theorem tZ (w:World):(sizeOf 3).run Tryz.prog w= .ok 1 w:=κ
theorem Ad4 (w0:World) (B1 B2 b1 o1 c1 b2 o2 c2:Nat) (pts:List V3) (ts:List Int) (T:Nat->Prop) (hTw:∀b,T b->b<w0.heap.size) (hT1:T B1) (hT2:T B2) (hb1:T b1) (hb2:T b2)
  (hc1:w0.cell? ⟨B1,0,none⟩=some (.slice (some ⟨b1,o1,none⟩) pts.length c1)) (hc2:w0.cell? ⟨B2,0,none⟩=some (.slice (some ⟨b2,o2,none⟩) pts.length c2))
  (hp:∀j u,(Iz pts)[j]?=some u->w0.cell? ⟨b1,o1+j,none⟩=some u) (ht:∀j u,(Ib ts)[j]?=some u->w0.cell? ⟨b2,o2+j,none⟩=some u)
  (hlen:ts.length=pts.length) (hbig:pts.length<=1000000) (hpt:∀p∈pts,p.pt=true):
  Ac6 231 #[.pointer (some ⟨B1,0,none⟩),.pointer (some ⟨B2,0,none⟩)] (pts.length-1) (λlo=>oF lo pts ts) T w0:=by
 intro l σ J Pv Jx W s0 hbW hJg hlt hTP hY hJ0
 refine callsIn_wide.2 ?_
 have HL:=Δ hlen
 have HPT:=Δ hpt
 have HP:=Δ hp
 have HT:=Δ ht
 have HJg:=Δ hJg
 have Hlt:=Δ hlt
 have HTP:=Δ hTP
 have HY:=Δ hY
 have HTw:=Δ hTw
 have HC1:=Δ hc1
 have HC2:=Δ hc2
 clear hlen hpt hp ht hJg hlt hTP hY hTw hc1 hc2
 show Calls Tryz.prog 231 #[.func (.yield l) #[] #[],.pointer (some ⟨B1,0,none⟩),.pointer (some ⟨B2,0,none⟩)] W _
 go_enter func231,ntmps231
 go_wp2
 go_loopw [4] (λi wr=>∃(k:Nat) (s:σ),i= .int .i64 ((k+1:Nat):Int)/\k<=pts.length-1/\J s k wr/\Hid (∀b,T b->wr.heap[b]?=w0.heap[b]?)/\w0.heap.size<=wr.heap.size) (λi _=>pts.length-(intOf i).toNat)
 case atStart=>exact⟨0,s0,rfl,Nat.zero_le _,hJ0,λb hb=>hbW.block b (HTw.out b hb),hbW.size⟩
 case round=>
  obtain⟨k,s,rfl,hk,hJ,HK,hwz⟩:=hrel
  have cc1:wr.cell? ⟨B1,0,none⟩=some (.slice (some ⟨b1,o1,none⟩) pts.length c1):=(World.cell?_of_block (HK.out _ hT1)).trans HC1.out
  by_cases hlt:k+1<pts.length
  ·
   have HCC1:=Δ cc1
   have HCC2:Hid (wr.cell? ⟨B2,0,none⟩=some (.slice (some ⟨b2,o2,none⟩) pts.length c2)):=(World.cell?_of_block (HK.out _ hT2)).trans HC2.out
   have LB:Hid (∀b,T b->b<wr.heap.size):=λb hb=>Nat.lt_of_lt_of_le (HTw.out b hb) hwz
   have PC:Hid (∀k,k<pts.length->∀j u,[Value.int .i64 (Dz pts k).x,.int .i64 (Dz pts k).y,.int .i64 (Dz pts k).z][j]?=some u->wr.cell? ⟨b1,o1+k*3+j,none⟩=some u):=λk hk j u hu=>by
    rw[World.cell?_of_block (a:=⟨b1,o1+k*3+j,none⟩) (HK.out _ hb1),Nat.add_assoc]
    refine HP.out _ u (Mu pts k hk j u ?_)
    have e:Dz pts k=pts[k]:=by unfold Dz;simp[hk]
    rw[<-e];exact hu
   have TC:Hid (∀k,k<pts.length->wr.cell? ⟨b2,o2+k*1,none⟩=some (.int .i64 (ts.getD k 0))):=λk hk=>by
    have hk':k<ts.length:=by rw[HL.out];exact hk
    rw[World.cell?_of_block (a:=⟨b2,o2+k*1,none⟩) (HK.out _ hb2),Nat.mul_one]
    refine HT.out _ _ ?_
    rw[Yv ts k hk'];simp[hk']
   have PW:Hid (∀k,k<pts.length->(-2097152<=(Dz pts k).x/\(Dz pts k).x<=2097152)/\(-2097152<=(Dz pts k).y/\(Dz pts k).y<=2097152)/\(-2097152<=(Dz pts k).z/\(Dz pts k).z<=2097152)):=λk hk=>by
    have e:Dz pts k=pts[k]:=by unfold Dz;simp[hk]
    rw[e];exact qL (HPT.out _ (List.getElem_mem hk))
   go_wp2
   refine Wl 20 33 (λw'=>Below wr.heap.size wr w') [is (.func (.yield l) #[] #[]),is (.slice (some ⟨b1,o1,none⟩) pts.length c1),is (.int .i64 ((k+1:Nat):Int)),is (.int .i64 (k:Int)),is (.pointer (some ⟨b1,o1+k*3,none⟩)),is (.agg #[.int .i64 (Dz pts k).x,.int .i64 (Dz pts k).y,.int .i64 (Dz pts k).z]),is (.slice (some ⟨b1,o1,none⟩) pts.length c1),is (.int .i64 ((k+1:Nat):Int)),is (.pointer (some ⟨b1,o1+(k+1)*3,none⟩)),is (.agg #[.int .i64 (Dz pts (k+1)).x,.int .i64 (Dz pts (k+1)).y,.int .i64 (Dz pts (k+1)).z]),is (.slice (some ⟨b2,o2,none⟩) pts.length c2),is (.int .i64 ((k+1:Nat):Int)),is (.int .i64 (k:Int)),is (.pointer (some ⟨b2,o2+k*1,none⟩)),is (.int .i64 (ts.getD k 0)),is (.slice (some ⟨b2,o2,none⟩) pts.length c2),is (.int .i64 ((k+1:Nat):Int)),is (.pointer (some ⟨b2,o2+(k+1)*1,none⟩)),is (.int .i64 (ts.getD (k+1) 0)),Anf wr.heap.size pts ts k] κ κ rfl δ ?hst ?h0 ?hop ?htail
   case hst=>
    simp only[List.mem_cons,List.mem_nil_iff,or_false,forall_eq_or_imp,forall_eq]
    exact⟨Ak _,Ak _,Ak _,Ak _,Ak _,Ak _,Ak _,Ak _,Ak _,Ak _,Ak _,Ak _,Ak _,Ak _,Ak _,Ak _,Ak _,Ak _,Ak _,uB _ _ _ _⟩
   case h0=>exact Ψ.drew
   case hop=>
    refine⟨?_,?_,?_,?_,?_,?_,?_,?_,?_,?_,?_,?_,?_,?_,?_,?_,?_,?_,?_,?_,trivial⟩
    · exact Fa (.tmp 0) (is (.func (.yield l) #[] #[])) rfl κ (λ_ _ _ h=>h)
    · exact Ez 22 (.tmp 1) (.pointer (some ⟨B1,0,none⟩)) (.slice (some ⟨b1,o1,none⟩) pts.length c1) rfl κ (λwa hC=>Cp wa (isAgg22 wa) (((Gl hC).1 _ _ (LB.out _ hT1)).trans HCC1.out)) rfl
    · exact Fa (.tmp 4) (is (.int .i64 ((k+1:Nat):Int))) rfl κ (λ_ _ _ h=>h)
    · exact mU 13 (.int .i64 1) (.int .i64 ((k+1:Nat):Int)) (.int .i64 (k:Int)) rfl κ (λa wa _ h1=>by clear cc1 hJ HK;go_simp;exact IntWalk.i64_in _ ω) rfl
    · exact Rh 22 33 12 14 b1 o1 pts.length c1 3 (k:Int) k rfl κ κ underlying22 wE rfl ω rfl
    · exact Ez 33 (.tmp 15) (.pointer (some ⟨b1,o1+k*3,none⟩)) (.agg #[.int .i64 (Dz pts k).x,.int .i64 (Dz pts k).y,.int .i64 (Dz pts k).z]) rfl κ (λwa hC=>Nd [.int .i64 (Dz pts k).x,.int .i64 (Dz pts k).y,.int .i64 (Dz pts k).z] wa (isAgg33 wa) κ (λj u hu=>((Gl hC).1 _ _ (LB.out _ hb1)).trans (PC.out k ω j u hu))) rfl
    · exact Ez 22 (.tmp 1) (.pointer (some ⟨B1,0,none⟩)) (.slice (some ⟨b1,o1,none⟩) pts.length c1) rfl κ (λwa hC=>Cp wa (isAgg22 wa) (((Gl hC).1 _ _ (LB.out _ hT1)).trans HCC1.out)) rfl
    · exact Fa (.tmp 4) (is (.int .i64 ((k+1:Nat):Int))) rfl κ (λ_ _ _ h=>h)
    · exact Rh 22 33 17 18 b1 o1 pts.length c1 3 ((k+1:Nat):Int) (k+1) rfl κ κ underlying22 wE ω ω rfl
    · exact Ez 33 (.tmp 19) (.pointer (some ⟨b1,o1+(k+1)*3,none⟩)) (.agg #[.int .i64 (Dz pts (k+1)).x,.int .i64 (Dz pts (k+1)).y,.int .i64 (Dz pts (k+1)).z]) rfl κ (λwa hC=>Nd [.int .i64 (Dz pts (k+1)).x,.int .i64 (Dz pts (k+1)).y,.int .i64 (Dz pts (k+1)).z] wa (isAgg33 wa) κ (λj u hu=>((Gl hC).1 _ _ (LB.out _ hb1)).trans (PC.out (k+1) ω j u hu))) rfl
    · exact Ez 95 (.tmp 2) (.pointer (some ⟨B2,0,none⟩)) (.slice (some ⟨b2,o2,none⟩) pts.length c2) rfl κ (λwa hC=>Cp wa (isAgg95 wa) (((Gl hC).1 _ _ (LB.out _ hT2)).trans HCC2.out)) rfl
    · exact Fa (.tmp 4) (is (.int .i64 ((k+1:Nat):Int))) rfl κ (λ_ _ _ h=>h)
    · exact mU 22 (.int .i64 1) (.int .i64 ((k+1:Nat):Int)) (.int .i64 (k:Int)) rfl κ (λa wa _ h1=>by clear cc1 hJ HK;go_simp;exact IntWalk.i64_in _ ω) rfl
    · exact Rh 95 3 21 23 b2 o2 pts.length c2 1 (k:Int) k rfl κ κ underlying95 tZ rfl ω rfl
    · exact Ez 3 (.tmp 24) (.pointer (some ⟨b2,o2+k*1,none⟩)) (.int .i64 (ts.getD k 0)) rfl κ (λwa hC=>Cp wa (isAgg3 wa) (((Gl hC).1 _ _ (LB.out _ hb2)).trans (TC.out k ω))) rfl
    · exact Ez 95 (.tmp 2) (.pointer (some ⟨B2,0,none⟩)) (.slice (some ⟨b2,o2,none⟩) pts.length c2) rfl κ (λwa hC=>Cp wa (isAgg95 wa) (((Gl hC).1 _ _ (LB.out _ hT2)).trans HCC2.out)) rfl
    · exact Fa (.tmp 4) (is (.int .i64 ((k+1:Nat):Int))) rfl κ (λ_ _ _ h=>h)
    · exact Rh 95 3 26 27 b2 o2 pts.length c2 1 ((k+1:Nat):Int) (k+1) rfl κ κ underlying95 tZ ω ω rfl
    · exact Ez 3 (.tmp 28) (.pointer (some ⟨b2,o2+(k+1)*1,none⟩)) (.int .i64 (ts.getD (k+1) 0)) rfl κ (λwa hC=>Cp wa (isAgg3 wa) (((Gl hC).1 _ _ (LB.out _ hb2)).trans (TC.out (k+1) ω))) rfl
    · exact Rg 182 [.tmp 16,.tmp 20,.tmp 25,.tmp 29,.const (.int .i64 2)] _ [.agg #[.int .i64 (Dz pts k).x,.int .i64 (Dz pts k).y,.int .i64 (Dz pts k).z],.agg #[.int .i64 (Dz pts (k+1)).x,.int .i64 (Dz pts (k+1)).y,.int .i64 (Dz pts (k+1)).z],.int .i64 (ts.getD k 0),.int .i64 (ts.getD (k+1) 0),.int .i64 2] rfl (λ_ _=>by kernel_rfl) ⟨κ,κ,κ,κ,κ,trivial⟩ (λwa hC=>(Abp _ _ _ _ _ _ _ _ _ _ (.inr (.inr rfl)) (PW.out k ω).1 (PW.out k ω).2.1 (PW.out k ω).2.2 (PW.out (k+1) ω).1 (PW.out (k+1) ω).2.1 (PW.out (k+1) ω).2.2).mono λe w' ⟨vx,vy,vz,he,h1,h2,h3,h4⟩=>⟨_,he,hC.trans (h4.mono hC.size),h4,[.int .i64 (ts.getD k 0),.int .i64 (ts.getD (k+1) 0),.int .i64 1,vx,vy,vz],rfl,vx,vy,vz,rfl,h1.more hC.size ζ,h2.more hC.size ζ,h3.more hC.size ζ⟩)
   case htail=>
    intro τ w2 hC hR
    have r0:τ 0= .func (.yield l) #[] #[]:=hR 0 δ
    obtain⟨cs,ecs,hseg⟩:Anf wr.heap.size pts ts k (τ 19) w2:=hR 19 δ
    have hz2:=hC.size
    have hJ2:J s k w2:=HJg.out s k wr w2 hJ ⟨hC.os,hC.tape,hC.output,hC.size,λi hi _=>hC.block i hi⟩
    have hitem:oF wr.heap.size pts ts k w2 #[τ 19]:=⟨cs,by rw[ecs],hseg⟩
    simp only[Dk,List.getElem?_toArray,List.getElem?_cons_succ,List.getElem?_cons_zero,Option.bind_some,Act.put,List.setIfInBounds_toArray,List.set_cons_succ,List.set_cons_zero,List.drop_succ_cons,List.drop_zero]
    refine Ve rfl (.tmp 11) #[.tmp 30] _ l #[τ 19] rfl (show τ 0=_ from r0) (by simp[Act.eval]) (HY.out s k wr w2 _ ω (by have:=hbW.size;omega) hJ hC hJ2 hitem) ?_
    intro e w3 hE
    rcases hE with⟨rfl,s',hJ3,hkp,hpv⟩|⟨rfl,hJx⟩
    ·
     refine⟨_,rfl,Mw rfl (.bool false) (by simp[execOp,go_sem,Act.eval,Act.put]) ?_⟩
     have hK3:Hid (∀b,T b->w3.heap[b]?=w0.heap[b]?):=λb hb=>(hkp.block b (Nat.lt_of_lt_of_le (LB.out b hb) hz2) (HTP.out s k w2 b hJ2 hb)).trans ((hC.block b (LB.out b hb)).trans (HK.out b hb))
     have hz3:w0.heap.size<=w3.heap.size:=Nat.le_trans hwz (Nat.le_trans hz2 hkp.size)
     clear hJ hJ2 hitem hR hC hkp hpv cc1 HK HCC1 HCC2 LB PC TC PW
     simp only[Act.put,List.setIfInBounds_toArray,List.set_cons_succ,List.set_cons_zero,wpListIn]
     go_wp2
     go_roundw
     case rel=>exact⟨k+1,s',by go_num,ω,hJ3,hK3,hz3⟩
     case measure=>simp[intOf];omega
    ·
     refine⟨_,rfl,Mw rfl (.bool true) (by simp[execOp,go_sem,Act.eval,Act.put]) ?_⟩
     clear hJ hJ2 hitem hR hC cc1 HK HCC1 HCC2 LB PC TC PW
     simp only[Act.put,List.setIfInBounds_toArray,List.set_cons_succ,List.set_cons_zero,wpListIn]
     go_wp2
     refine bodyPost_ret (results_none rfl _ _ _) rfl ?_
     exact⟨⟨_,rfl⟩,.inr hJx⟩
  ·
   have hkN:k=pts.length-1:=by omega
   have HKN:=Δ hkN
   clear hkN
   go_wp2
   go_end0
   exact⟨⟨_,rfl⟩,.inl ⟨s,by rw[<-HKN.out];exact hJ⟩⟩
end Go.Proofs.YtkpjchfniejdoaaGreatDoor