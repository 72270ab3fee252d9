/- Part 2 of the proof of PC.clocks_holds, joined by program: no condition beyond the row's own. -/
import Derived.Test.YthhkfanbmpcmbaaGreatDoorPC1
import Derived.Lib.ItoaNum
set_option maxRecDepth 100000
set_option maxHeartbeats 40000000
namespace Go.Proofs.YthhkfanbmpcmbaaGreatDoor
def Av (n:Nat):Nat->List UInt8
 |0=>[]
 |m+1=>Av (n/10) m++[UInt8.ofNat (48+n%10)]
theorem Uk:∀(m n:Nat),Av n (m+1)=UInt8.ofNat (48+n/10^m%10)::Av n m
 |0,n=>by simp[Av]
 |m+1,n=>by
  rw[Av,Uk m (n/10),Av,Nat.div_div_eq_div_mul,Nat.pow_succ,Nat.mul_comm 10]
  rfl
theorem Ce:∀(m n:Nat),(Av n m).length=m
 |0,_=>rfl
 |m+1,n=>by rw[Av,List.length_append,Ce m];rfl
theorem Aas (n:Nat):Lib.itoa (n:Int)=Lib.decDigits n:=by
 rw[Lib.itoa,if_neg ω]
 rfl
theorem Kl {n:Nat} (h:n<10):Lib.decDigits n=Av n 1:=by
 rw[Lib.decDigits,dif_pos h]
 simp[Av,Nat.mod_eq_of_lt h]
theorem Sd {n m:Nat} (h:10<=n) (hd:Lib.decDigits (n/10)=Av (n/10) m):Lib.decDigits n=Av n (m+1):=by
 rw[Lib.decDigits,dif_neg ω,hd]
 rfl
theorem Km {n:Nat} (h1:10<=n) (h2:n<100):Lib.decDigits n=Av n 2:=Sd h1 (Kl ω)
theorem Ui {n:Nat} (h1:100<=n) (h2:n<1000):Lib.decDigits n=Av n 3:=Sd ω (Km ω ω)
def AaN (n d:Nat):List UInt8:=List.replicate (d-(Lib.decDigits n).length) 48++Lib.decDigits n
theorem Na {n m:Nat} (h:n<10^m):Av n (m+1)=48::Av n m:=by
 rw[Uk,Nat.div_eq_of_lt h]
 rfl
theorem AeD {n:Nat} (h:n<100):AaN n 2=Av n 2:=by
 unfold AaN
 rcases Nat.lt_or_ge n 10 with g|g
 rw[Kl g,Ce,Na (m:=1) ω]
 rfl
 rw[Km g h,Ce]
 rfl
theorem AeE {n:Nat} (h:n<1000):AaN n 3=Av n 3:=by
 unfold AaN
 rcases Nat.lt_or_ge n 10 with g|g
 rw[Kl g,Ce,Na (m:=2) ω,Na (m:=1) ω]
 rfl
 rcases Nat.lt_or_ge n 100 with g2|g2
 rw[Km g g2,Ce,Na (m:=2) ω]
 rfl
 rw[Ui g2 h,Ce]
 rfl
def Fr (t:Nat):List UInt8:=Av (t/3600000) 2++[58]++Av (t/60000%60) 2++[58]++Av (t/1000%60) 2++[46]++Av (t%1000) 3
theorem sE:Fr 3723004=[48,49,58,48,50,58,48,51,46,48,48,52]:=by decide+kernel
theorem sF:Fr 86400000=[50,52,58,48,48,58,48,48,46,48,48,48]:=by decide+kernel
end Go.Proofs.YthhkfanbmpcmbaaGreatDoor