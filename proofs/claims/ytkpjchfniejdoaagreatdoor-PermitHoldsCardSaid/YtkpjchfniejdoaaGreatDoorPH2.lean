/- Part 2 of the proof of PH.card_holds: no condition beyond the row's. -/
import Derived.Test.YtkpjchfniejdoaaGreatDoorPH1
import Derived.Lib.ItoaNum
set_option maxRecDepth 100000
set_option maxHeartbeats 40000000
namespace Go.Proofs.YtkpjchfniejdoaaGreatDoor
def Cd (n:Nat):Nat->List UInt8
 |0=>[]
 |m+1=>Cd (n/10) m++[UInt8.ofNat (48+n%10)]
theorem bS:∀(m n:Nat),Cd n (m+1)=UInt8.ofNat (48+n/10^m%10)::Cd n m
 |0,n=>by simp[Cd]
 |m+1,n=>by
  rw[Cd,bS m (n/10),Cd,Nat.div_div_eq_div_mul,Nat.pow_succ,Nat.mul_comm 10]
  rfl
theorem Ei:∀(m n:Nat),(Cd n m).length=m
 |0,_=>rfl
 |m+1,n=>by rw[Cd,List.length_append,Ei m];rfl
theorem Ah5 (n:Nat):Lib.itoa (n:Int)=Lib.decDigits n:=by
 rw[Lib.itoa,if_neg ω]
 rfl
theorem Ow {n:Nat} (h:n<10):Lib.decDigits n=Cd n 1:=by
 rw[Lib.decDigits,dif_pos h]
 simp[Cd,Nat.mod_eq_of_lt h]
theorem Yk {n m:Nat} (h:10<=n) (hd:Lib.decDigits (n/10)=Cd (n/10) m):Lib.decDigits n=Cd n (m+1):=by
 rw[Lib.decDigits,dif_neg ω,hd]
 rfl
theorem Ox {n:Nat} (h1:10<=n) (h2:n<100):Lib.decDigits n=Cd n 2:=Yk h1 (Ow ω)
theorem bQ {n:Nat} (h1:100<=n) (h2:n<1000):Lib.decDigits n=Cd n 3:=Yk ω (Ox ω ω)
def Ais (n d:Nat):List UInt8:=List.replicate (d-(Lib.decDigits n).length) 48++Lib.decDigits n
theorem Sd {n m:Nat} (h:n<10^m):Cd n (m+1)=48::Cd n m:=by
 rw[bS,Nat.div_eq_of_lt h]
 rfl
theorem Aot {n:Nat} (h:n<100):Ais n 2=Cd n 2:=by
 unfold Ais
 rcases Nat.lt_or_ge n 10 with g|g
 rw[Ow g,Ei,Sd (m:=1) ω]
 rfl
 rw[Ox g h,Ei]
 rfl
theorem Aou {n:Nat} (h:n<1000):Ais n 3=Cd n 3:=by
 unfold Ais
 rcases Nat.lt_or_ge n 10 with g|g
 rw[Ow g,Ei,Sd (m:=2) ω,Sd (m:=1) ω]
 rfl
 rcases Nat.lt_or_ge n 100 with g2|g2
 rw[Ox g g2,Ei,Sd (m:=2) ω]
 rfl
 rw[bQ g2 h,Ei]
 rfl
def Em (t:Nat):List UInt8:=Cd (t/3600000) 2++[58]++Cd (t/60000%60) 2++[58]++Cd (t/1000%60) 2++[46]++Cd (t%1000) 3
theorem Sa (t:Nat):(Em t).length=12:=by
 unfold Em
 simp only[List.length_append,Ei]
 rfl
theorem AcM:Em 3723004=[48,49,58,48,50,58,48,51,46,48,48,52]:=by decide+kernel
theorem AcN:Em 86400000=[50,52,58,48,48,58,48,48,46,48,48,48]:=by decide+kernel
end Go.Proofs.YtkpjchfniejdoaaGreatDoor