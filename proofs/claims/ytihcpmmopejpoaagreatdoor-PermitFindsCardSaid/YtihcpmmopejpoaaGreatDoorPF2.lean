/- Part 2 of the proof of PF.card_holds: no condition beyond the row's. -/
import Derived.Test.YtihcpmmopejpoaaGreatDoorPF1
import Derived.Lib.ItoaNum
set_option maxRecDepth 100000
set_option maxHeartbeats 40000000
namespace Go.Proofs.YtihcpmmopejpoaaGreatDoor
def Cg (n:Nat):Nat->List UInt8
 |0=>[]
 |m+1=>Cg (n/10) m++[UInt8.ofNat (48+n%10)]
theorem bA:∀(m n:Nat),Cg n (m+1)=UInt8.ofNat (48+n/10^m%10)::Cg n m
 |0,n=>by simp[Cg]
 |m+1,n=>by
  rw[Cg,bA m (n/10),Cg,Nat.div_div_eq_div_mul,Nat.pow_succ,Nat.mul_comm 10]
  rfl
theorem El:∀(m n:Nat),(Cg n m).length=m
 |0,_=>rfl
 |m+1,n=>by rw[Cg,List.length_append,El m];rfl
theorem Ahd (n:Nat):Lib.itoa (n:Int)=Lib.decDigits n:=by
 rw[Lib.itoa,if_neg ω]
 rfl
theorem On {n:Nat} (h:n<10):Lib.decDigits n=Cg n 1:=by
 rw[Lib.decDigits,dif_pos h]
 simp[Cg,Nat.mod_eq_of_lt h]
theorem Xu {n m:Nat} (h:10<=n) (hd:Lib.decDigits (n/10)=Cg (n/10) m):Lib.decDigits n=Cg n (m+1):=by
 rw[Lib.decDigits,dif_neg ω,hd]
 rfl
theorem Oo {n:Nat} (h1:10<=n) (h2:n<100):Lib.decDigits n=Cg n 2:=Xu h1 (On ω)
theorem aY {n:Nat} (h1:100<=n) (h2:n<1000):Lib.decDigits n=Cg n 3:=Xu ω (Oo ω ω)
def AhL (n d:Nat):List UInt8:=List.replicate (d-(Lib.decDigits n).length) 48++Lib.decDigits n
theorem Ru {n m:Nat} (h:n<10^m):Cg n (m+1)=48::Cg n m:=by
 rw[bA,Nat.div_eq_of_lt h]
 rfl
theorem Anu {n:Nat} (h:n<100):AhL n 2=Cg n 2:=by
 unfold AhL
 rcases Nat.lt_or_ge n 10 with g|g
 rw[On g,El,Ru (m:=1) ω]
 rfl
 rw[Oo g h,El]
 rfl
theorem Anv {n:Nat} (h:n<1000):AhL n 3=Cg n 3:=by
 unfold AhL
 rcases Nat.lt_or_ge n 10 with g|g
 rw[On g,El,Ru (m:=2) ω,Ru (m:=1) ω]
 rfl
 rcases Nat.lt_or_ge n 100 with g2|g2
 rw[Oo g g2,El,Ru (m:=2) ω]
 rfl
 rw[aY g2 h,El]
 rfl
def Pu (t:Nat):List UInt8:=Cg (t/3600000) 2++[58]++Cg (t/60000%60) 2++[58]++Cg (t/1000%60) 2++[46]++Cg (t%1000) 3
theorem Acy:Pu 3723004=[48,49,58,48,50,58,48,51,46,48,48,52]:=by decide+kernel
theorem Acz:Pu 86400000=[50,52,58,48,48,58,48,48,46,48,48,48]:=by decide+kernel
end Go.Proofs.YtihcpmmopejpoaaGreatDoor