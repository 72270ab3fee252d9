/- Part 8 of the proof of EC.row_holds, joined by program: no condition beyond the row's own. -/
import Derived.Test.YtikinphpaiajfaaGreatC7
import Derived.BigGuardPart
import Derived.Lib.BitFns
set_option maxRecDepth 100000
set_option maxHeartbeats 40000000
namespace Go.Proofs.YtikinphpaiajfaaGreat
open Go.Proofs.Tryz
open Go.RowKit
def Ib (l:List Nat):List Value:=l.map λn:Nat=>Value.int .u64 (n:Int)
theorem Df (l:List Nat):(Ib l).length=l.length:=by simp[Ib]
theorem Dw (l:List Nat) (k:Nat) (h:k<l.length):(Ib l)[k]?=some (.int .u64 (dg l k:Int)):=by simp[Ib,h,dg]
def Aih:Value->Prop
 | .slice _ n c=>n<=c
 |_=>True
def Cg (w:World) (lo hi:Nat) (v:Value) (n:Nat):Prop:=Ce w lo hi 1 v (Aq n).length (Ib (Aq n))/\Aih v
theorem Cy.take {w:World} {D:Nat->Prop} {A:Option Addr} {n c:Nat} {ls:List Nat} (h:Cy w D 1 (.slice A n c) n (Ib ls)) {k:Nat} (hk:k<=n):Cy w D 1 (.slice A k c) k (Ib (ls.take k)):=by
 have hl:ls.length=n:=by have:=h.1;rw[Df] at this;omega
 refine⟨by rw[Df,List.length_take];omega,?_⟩
 rcases h.2 with⟨A',c',e,h0⟩|⟨b,o,c',e,hd,hc⟩
 cases e
 exact .inl ⟨A,c,by rw[show k=0 by omega],ω⟩
 cases e
 refine .inr ⟨b,o,c,rfl,hd,λj u hu=>hc j u ?_⟩
 have hj:=(List.getElem?_eq_some_iff.1 hu).1
 rw[Df,List.length_take] at hj
 unfold Ib at*
 rw[List.getElem?_map,List.getElem?_take] at hu
 rw[if_pos ω] at hu
 rw[List.getElem?_map]
 exact hu
theorem Ab4 {ls:List Nat} {k:Nat} (h:dg ls k=0) (hv:val (ls.take (k+1))=val ls):val (ls.take k)=val ls:=by
 have:=Fa ls k
 unfold lo at this
 rw[h] at this
 omega
theorem jC {ls:List Nat} (hd:Iq ls) {k:Nat} (hk:k<=ls.length) (hn:k=0\/dg ls (k-1)≠0) (hv:val (ls.take k)=val ls):ls.take k=Aq (val ls):=by
 rw[<-hv]
 refine(AgW (λx hx=>hd x (List.mem_of_mem_take hx)) λhne=>?_).symm
 have hk0:k≠0:=λe=>hne (by rw[e];rfl)
 rw[List.getLast_eq_getElem]
 simp only[List.getElem_take,List.length_take]
 have h1:min k ls.length-1=k-1:=by omega
 have h2:k-1<ls.length:=by omega
 have:dg ls (k-1)≠0:=by omega
 rw[Wm h2] at this
 simpa [h1] using this
theorem Tq (ls:List Nat) (v:Value) (lo hi:Nat) (w:World) (h:Ce w lo hi 1 v ls.length (Ib ls)) (hcap:Aih v) (hd:Iq ls) (hl:ls.length<=1000000):
  Calls Tryz.prog 113 #[v] w λe w'=>∃v',e= .returned v'/\Cg w lo hi v' (val ls)/\w=w':=by
 obtain⟨A,c,rfl⟩:=h.slice
 have hcc:ls.length<=c:=hcap
 clear hcap
 have H:=Lib.hid h
 have HD:=Lib.hid hd
 clear h hd
 go_enter func113,ntmps113
 go_wp2_with fail
 go_loop [0] (λv=>∃k:Nat,k<=ls.length/\v= .slice A k c/\val (ls.take k)=val ls) (λv=>match v with| .slice _ k _=>k|_=>0)
 case atStart=>exact⟨ls.length,Nat.le_refl _,rfl,by rw[List.take_length]⟩
 case round=>
  obtain⟨k,hk,rfl,hv⟩:=hrel
  have HV:=Lib.hid hv
  clear hv
  by_cases h0:k=0
  ·
   subst h0
   go_wp2_with fail
   go_ret
   refine⟨.slice A 0 c,rfl,⟨?_,Nat.zero_le _⟩,rfl⟩
   have hn:=jC HD.out hk (.inl rfl) HV.out
   have:=Cy.take H.out (k:=0) (Nat.zero_le _)
   rw[<-hn]
   exact this
  ·
   obtain⟨b,o,c',e,h1,h2,hc⟩:=H.out.pos ω
   cases e
   have hkl:k-1<ls.length:=by omega
   have g0:w.cell? ⟨b,o+(k-1),none⟩=some (.int .u64 (dg ls (k-1):Int)):=hc _ _ (Dw ls (k-1) hkl)
   have hks:(k:Int)-1=((k-1:Nat):Int):=by omega
   have hk1:(0:Int)<(k:Int):=by omega
   have hk1n:0<k:=by omega
   clear hc
   by_cases hz:dg ls (k-1)=0
   ·
    have HN:Hid (val (ls.take (k-1))=val ls):=Ab4 hz (by rw[show k-1+1=k by omega];exact HV.out)
    rw[hz] at g0
    clear hz
    have hkc:((k-1:Nat):Int)<=(c:Int):=by omega
    have hk0:(0:Int)<=((k-1:Nat):Int):=by omega
    go_wp2_with fail
    go_round
    case rel=>exact⟨k-1,ω,rfl,HN.out⟩
    case measure=>simp;omega
   ·
    have hzb:((dg ls (k-1):Int)==0)=false:=by rw[beq_eq_false_iff_ne];omega
    have HZ:=Lib.hid hz
    clear hz
    go_wp2_with fail
    go_ret
    refine⟨.slice (some ⟨b,o,none⟩) k c,rfl,⟨?_,Nat.le_trans hk hcc⟩,rfl⟩
    have hn:=jC HD.out hk (.inr HZ.out) HV.out
    have:=Cy.take H.out (k:=k) hk
    rw[<-hn,List.length_take,Nat.min_eq_left hk]
    exact this
theorem Wj:∀(f x:Nat),x<2^f->Lib.bitLenAux f x=bitLen x
 |0,x,h=>by
  have:x=0:=by simpa using h
  subst this;rfl
 |f+1,x,h=>by
  unfold Lib.bitLenAux
  by_cases h0:x=0
  subst h0;rfl
  rw[if_neg h0,Wj f (x/2) (by rw[Nat.pow_succ] at h;omega)]
  by_cases h1:x/2=0
  have:x=1:=by omega
  subst this;rfl
  have b1:=Pn h1
  have b2:=Mq (x/2)
  have b3:1<=bitLen (x/2):=by rw[Hn h1];omega
  obtain⟨k,hk⟩:∃k,bitLen (x/2)=k+1:=⟨bitLen (x/2)-1,ω⟩
  rw[hk] at b1 b2 ⊢
  rw[Nat.add_sub_cancel] at b1
  have:=Yn (n:=x) (k:=k+1) (by rw[Nat.pow_succ];omega) (by rw[Nat.pow_succ];omega)
  omega
theorem tT (x:Nat) (hx:x<Bw) (w:World):Calls Tryz.prog 155 #[.int .u64 (x:Int)] w λe w'=>e= .returned (.int .i64 (64-(bitLen x:Int)))/\w=w':=by
 have h2:x<2^64:=by rw[<-Ci];exact hx
 refine(_root_.Go.Proofs.Tryz.bits_LeadingZeros64 (x:Int) w ω ω).mono λe w' ⟨he,hw⟩=>⟨?_,hw.symm⟩
 rw[he]
 simp only[Int.toNat_natCast]
 have:Lib.bitLen x=bitLen x:=Wj 64 x h2
 rw[this]
theorem Ym {x:Nat} (hx:x<Bw):bitLen x<=64:=Gp.2 (by rw[<-Ci];exact hx)
theorem qO (n:Nat) (v:Value) (lo hi:Nat) (w:World) (h:Cg w lo hi v n) (hl:(Aq n).length<=1000000):
  Calls Tryz.prog 118 #[v] w λe w'=>e= .returned (.int .i64 (bitLen n:Int))/\w=w':=by
 have hs:=h.1
 obtain⟨A,c,rfl⟩:=hs.slice
 clear h
 by_cases h0:n=0
 ·
  subst h0
  rw[Db]
  clear hs hl
  go_enter func118,ntmps118
  go_wp2_with fail
  go_ret
  exact⟨rfl,rfl⟩
 ·
  have hne:Aq n≠[]:=λe=>h0 (Me.1 e)
  have hp:=List.length_pos_iff.2 hne
  have HT:=Lib.hid (Vd h0)
  obtain⟨b,o,c',e,h1,h2,hc⟩:=hs.pos hp
  cases e
  have hkl:(Aq n).length-1<(Aq n).length:=by omega
  have g0:w.cell? ⟨b,o+((Aq n).length-1),none⟩=some (.int .u64 (dg (Aq n) ((Aq n).length-1):Int)):=hc _ _ (Dw _ _ hkl)
  have hd:=Ik (Cx n) ((Aq n).length-1)
  have HD:=Lib.hid hd
  have h64:=Ym hd
  clear hc hs hd hne h0
  generalize hx:dg (Aq n) ((Aq n).length-1)=x at*
  generalize hk:(Aq n).length=k at*
  have hks:(k:Int)-1=((k-1:Nat):Int):=by omega
  have hne:((k:Int)==0)=false:=by rw[beq_eq_false_iff_ne];omega
  have HK:=Lib.hid hk
  have HXX:=Lib.hid hx
  clear hk hx
  go_enter func118,ntmps118
  go_wp2_with fail
  refine(tT x HD.out _).mono ?_
  rintro e w' ⟨rfl,rfl⟩
  go_wp2_with fail
  go_ret
  exact⟨Ah1 (by rw[HT.out];omega),rfl⟩
end Go.Proofs.YtikinphpaiajfaaGreat