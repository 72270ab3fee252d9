/- Part 9 of the proof of IB.row_holds: no condition beyond the row's. -/
import Derived.Test.YtbggmndaahbojaaGreatIb8
import Derived.BigGuardPart
import Derived.Lib.BitFns
set_option maxRecDepth 100000
set_option maxHeartbeats 40000000
namespace Go.Proofs.YtbggmndaahbojaaGreat
open Go.Proofs.Tryz
open Go.RowKit
def Gw (l:List Nat):List Value:=l.map λn:Nat=>Value.int .u64 (n:Int)
theorem Cd (l:List Nat):(Gw l).length=l.length:=by simp[Gw]
theorem Ct (l:List Nat) (k:Nat) (h:k<l.length):(Gw l)[k]?=some (.int .u64 (dg l k:Int)):=by simp[Gw,h,dg]
def AgC:Value->Prop
 | .slice _ n c=>n<=c
 |_=>True
def Bf (w:World) (lo hi:Nat) (v:Value) (n:Nat):Prop:=Hc w lo hi 1 v (Ae n).length (Gw (Ae n))/\AgC v
theorem Gc.take {w:World} {D:Nat->Prop} {A:Option Addr} {n c:Nat} {ls:List Nat} (h:Gc w D 1 (.slice A n c) n (Gw ls)) {k:Nat} (hk:k<=n):Gc w D 1 (.slice A k c) k (Gw (ls.take k)):=by
 have hl:ls.length=n:=by have:=h.1;rw[Cd] at this;omega
 refine⟨by rw[Cd,List.length_take];omega,?_⟩
 rcases h.2 with⟨A',c',e,h0⟩|⟨b,o,c',e,hd,hc⟩
 cases e
 exact .inl ⟨A,c,by rw[show k=0 by omega],ω⟩
 cases e
 refine .inr ⟨b,o,c,rfl,hd,λj u hu=>hc j u ?_⟩
 have hj:=(List.getElem?_eq_some_iff.1 hu).1
 rw[Cd,List.length_take] at hj
 unfold Gw at*
 rw[List.getElem?_map,List.getElem?_take] at hu
 rw[if_pos ω] at hu
 rw[List.getElem?_map]
 exact hu
theorem yP {ls:List Nat} {k:Nat} (h:dg ls k=0) (hv:val (ls.take (k+1))=val ls):val (ls.take k)=val ls:=by
 have:=Ea ls k
 unfold lo at this
 rw[h] at this
 omega
theorem eG {ls:List Nat} (hd:Hp ls) {k:Nat} (hk:k<=ls.length) (hn:k=0\/dg ls (k-1)≠0) (hv:val (ls.take k)=val ls):ls.take k=Ae (val ls):=by
 rw[<-hv]
 refine(Af7 (λx hx=>hd x (List.mem_of_mem_take hx)) λhne=>?_).symm
 have hk0:k≠0:=λe=>hne (by rw[e];rfl)
 rw[List.getLast_eq_getElem]
 simp only[List.getElem_take,List.length_take]
 have h1:min k ls.length-1=k-1:=by omega
 have h2:k-1<ls.length:=by omega
 have:dg ls (k-1)≠0:=by omega
 rw[Tf h2] at this
 simpa [h1] using this
theorem Qp (ls:List Nat) (v:Value) (lo hi:Nat) (w:World) (h:Hc w lo hi 1 v ls.length (Gw ls)) (hcap:AgC v) (hd:Hp ls) (hl:ls.length<=1000000):
  Calls Tryz.prog 54 #[v] w λe w'=>∃v',e= .returned v'/\Bf w lo hi v' (val ls)/\w=w':=by
 obtain⟨A,c,rfl⟩:=h.slice
 have hcc:ls.length<=c:=hcap
 clear hcap
 have H:=Δ h
 have HD:=Δ hd
 clear h hd
 go_enter func54,ntmps54
 go_wp2_with fail
 go_loop [0] (λv=>∃k:Nat,k<=ls.length/\v= .slice A k c/\val (ls.take k)=val ls) (λv=>match v with| .slice _ k _=>k|_=>0)
 case atStart=>exact⟨ls.length,Nat.le_refl _,rfl,by rw[List.take_length]⟩
 case round=>
  obtain⟨k,hk,rfl,hv⟩:=hrel
  have HV:=Δ hv
  clear hv
  by_cases h0:k=0
  ·
   subst h0
   go_wp2_with fail
   go_ret
   refine⟨.slice A 0 c,rfl,⟨?_,Nat.zero_le _⟩,rfl⟩
   have hn:=eG HD.out hk (.inl rfl) HV.out
   have:=Gc.take H.out (k:=0) Ω
   rw[<-hn]
   exact this
  ·
   obtain⟨b,o,c',e,h1,h2,hc⟩:=H.out.pos ω
   cases e
   have hkl:k-1<ls.length:=by omega
   have g0:w.cell? ⟨b,o+(k-1),none⟩=some (.int .u64 (dg ls (k-1):Int)):=hc _ _ (Ct ls (k-1) hkl)
   have hks:(k:Int)-1=((k-1:Nat):Int):=by omega
   have hk1:(0:Int)<(k:Int):=by omega
   have hk1n:0<k:=by omega
   clear hc
   by_cases hz:dg ls (k-1)=0
   ·
    have HN:Hid (val (ls.take (k-1))=val ls):=yP hz (by rw[show k-1+1=k by omega];exact HV.out)
    rw[hz] at g0
    clear hz
    have hkc:((k-1:Nat):Int)<=(c:Int):=by omega
    have hk0:(0:Int)<=((k-1:Nat):Int):=by omega
    go_wp2_with fail
    go_round
    case rel=>exact⟨k-1,ω,rfl,HN.out⟩
    case measure=>simp;omega
   ·
    have hzb:((dg ls (k-1):Int)==0)=false:=by rw[beq_eq_false_iff_ne];omega
    have HZ:=Δ hz
    clear hz
    go_wp2_with fail
    go_ret
    refine⟨.slice (some ⟨b,o,none⟩) k c,rfl,⟨?_,Nat.le_trans hk hcc⟩,rfl⟩
    have hn:=eG HD.out hk (.inr HZ.out) HV.out
    have:=Gc.take H.out (k:=k) hk
    rw[<-hn,List.length_take,Nat.min_eq_left hk]
    exact this
theorem Ta:∀(f x:Nat),x<2^f->Lib.bitLenAux f x=bitLen x
 |0,x,h=>by
  have:x=0:=by simpa using h
  subst this;rfl
 |f+1,x,h=>by
  unfold Lib.bitLenAux
  by_cases h0:x=0
  subst h0;rfl
  rw[if_neg h0,Ta f (x/2) (by rw[Nat.pow_succ] at h;omega)]
  by_cases h1:x/2=0
  have:x=1:=by omega
  subst this;rfl
  have b1:=No h1
  have b2:=Lh (x/2)
  have b3:1<=bitLen (x/2):=by rw[Gf h1];omega
  obtain⟨k,hk⟩:∃k,bitLen (x/2)=k+1:=⟨bitLen (x/2)-1,ω⟩
  rw[hk] at b1 b2 ⊢
  rw[Nat.add_sub_cancel] at b1
  have:=Un (n:=x) (k:=k+1) (by rw[Nat.pow_succ];omega) (by rw[Nat.pow_succ];omega)
  omega
theorem pD (x:Nat) (hx:x<Bw) (w:World):Calls Tryz.prog 149 #[.int .u64 (x:Int)] w λe w'=>e= .returned (.int .i64 (64-(bitLen x:Int)))/\w=w':=by
 have h2:x<2^64:=by rw[<-Bk];exact hx
 refine(_root_.Go.Proofs.Tryz.bits_LeadingZeros64 (x:Int) w ω ω).mono λe w' ⟨he,hw⟩=>⟨?_,hw.symm⟩
 rw[he]
 simp only[Int.toNat_natCast]
 have:Lib.bitLen x=bitLen x:=Ta 64 x h2
 rw[this]
theorem Um {x:Nat} (hx:x<Bw):bitLen x<=64:=Em.2 (by rw[<-Bk];exact hx)
theorem mB (n:Nat) (v:Value) (lo hi:Nat) (w:World) (h:Bf w lo hi v n) (hl:(Ae n).length<=1000000):
  Calls Tryz.prog 93 #[v] w λe w'=>e= .returned (.int .i64 (bitLen n:Int))/\w=w':=by
 have hs:=h.1
 obtain⟨A,c,rfl⟩:=hs.slice
 clear h
 by_cases h0:n=0
 ·
  subst h0
  rw[Cf]
  clear hs hl
  go_enter func93,ntmps93
  go_wp2_with fail
  go_ret
  exact⟨rfl,rfl⟩
 ·
  have hne:Ae n≠[]:=λe=>h0 (Ky.1 e)
  have hp:=List.length_pos_iff.2 hne
  have HT:=Δ (Ru h0)
  obtain⟨b,o,c',e,h1,h2,hc⟩:=hs.pos hp
  cases e
  have hkl:(Ae n).length-1<(Ae n).length:=by omega
  have g0:w.cell? ⟨b,o+((Ae n).length-1),none⟩=some (.int .u64 (dg (Ae n) ((Ae n).length-1):Int)):=hc _ _ (Ct _ _ hkl)
  have hd:=Hj (Cb n) ((Ae n).length-1)
  have HD:=Δ hd
  have h64:=Um hd
  clear hc hs hd hne h0
  generalize hx:dg (Ae n) ((Ae n).length-1)=x at*
  generalize hk:(Ae n).length=k at*
  have hks:(k:Int)-1=((k-1:Nat):Int):=by omega
  have hne:((k:Int)==0)=false:=by rw[beq_eq_false_iff_ne];omega
  have HK:=Δ hk
  have HXX:=Δ hx
  clear hk hx
  go_enter func93,ntmps93
  go_wp2_with fail
  refine(pD x HD.out _).mono ?_
  rintro e w' ⟨rfl,rfl⟩
  go_wp2_with fail
  go_ret
  exact⟨Agg (by rw[HT.out];omega),rfl⟩
end Go.Proofs.YtbggmndaahbojaaGreat