/- Part 2 of the proof of PL.card_holds, joined by program: no condition beyond the row's own. -/
import Derived.Test.YtihcpmmopejpoaaGreatDoorPL1
import Derived.Lib.ItoaNum
set_option maxRecDepth 100000
set_option maxHeartbeats 40000000
namespace Go.Proofs.YtihcpmmopejpoaaGreatDoor
def Ch (n:Nat):Nat->List UInt8
 |0=>[]
 |m+1=>Ch (n/10) m++[UInt8.ofNat (48+n%10)]
theorem bA:∀(m n:Nat),Ch n (m+1)=UInt8.ofNat (48+n/10^m%10)::Ch n m
 |0,n=>by simp[Ch]
 |m+1,n=>by
  rw[Ch,bA m (n/10),Ch,Nat.div_div_eq_div_mul,Nat.pow_succ,Nat.mul_comm 10]
  rfl
theorem El:∀(m n:Nat),(Ch n m).length=m
 |0,_=>rfl
 |m+1,n=>by rw[Ch,List.length_append,El m];rfl
theorem AgR (n:Nat):Lib.itoa (n:Int)=Lib.decDigits n:=by
 rw[Lib.itoa,if_neg ω]
 rfl
theorem Ol {n:Nat} (h:n<10):Lib.decDigits n=Ch n 1:=by
 rw[Lib.decDigits,dif_pos h]
 simp[Ch,Nat.mod_eq_of_lt h]
theorem Xt {n m:Nat} (h:10<=n) (hd:Lib.decDigits (n/10)=Ch (n/10) m):Lib.decDigits n=Ch n (m+1):=by
 rw[Lib.decDigits,dif_neg ω,hd]
 rfl
theorem Om {n:Nat} (h1:10<=n) (h2:n<100):Lib.decDigits n=Ch n 2:=Xt h1 (Ol ω)
theorem aY {n:Nat} (h1:100<=n) (h2:n<1000):Lib.decDigits n=Ch n 3:=Xt ω (Om ω ω)
def Ah9 (n d:Nat):List UInt8:=List.replicate (d-(Lib.decDigits n).length) 48++Lib.decDigits n
theorem Rq {n m:Nat} (h:n<10^m):Ch n (m+1)=48::Ch n m:=by
 rw[bA,Nat.div_eq_of_lt h]
 rfl
theorem Ang {n:Nat} (h:n<100):Ah9 n 2=Ch n 2:=by
 unfold Ah9
 rcases Nat.lt_or_ge n 10 with g|g
 rw[Ol g,El,Rq (m:=1) ω]
 rfl
 rw[Om g h,El]
 rfl
theorem Anh {n:Nat} (h:n<1000):Ah9 n 3=Ch n 3:=by
 unfold Ah9
 rcases Nat.lt_or_ge n 10 with g|g
 rw[Ol g,El,Rq (m:=2) ω,Rq (m:=1) ω]
 rfl
 rcases Nat.lt_or_ge n 100 with g2|g2
 rw[Om g g2,El,Rq (m:=2) ω]
 rfl
 rw[aY g2 h,El]
 rfl
def Pu (t:Nat):List UInt8:=Ch (t/3600000) 2++[58]++Ch (t/60000%60) 2++[58]++Ch (t/1000%60) 2++[46]++Ch (t%1000) 3
theorem Acp:Pu 3723004=[48,49,58,48,50,58,48,51,46,48,48,52]:=by decide+kernel
theorem Acq:Pu 86400000=[50,52,58,48,48,58,48,48,46,48,48,48]:=by decide+kernel
end Go.Proofs.YtihcpmmopejpoaaGreatDoor