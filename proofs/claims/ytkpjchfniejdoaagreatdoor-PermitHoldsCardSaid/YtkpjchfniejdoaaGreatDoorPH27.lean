/- Part 27 of the proof of PH.card_holds: no condition beyond the row's. -/
import Derived.Test.YtkpjchfniejdoaaGreatDoorPH26
import Derived.Lib.ItoaLen
set_option maxRecDepth 100000
set_option maxHeartbeats 40000000
namespace Go.Proofs.YtkpjchfniejdoaaGreatDoor
structure Sh where
 n:Int
 len:Int
 st:Int
 lx:Int
 ly:Int
 lz:Int
 hx:Int
 hy:Int
 hz:Int
 sp:Int
 di:Int
 safe:Bool
structure ShP (y:Sh):Prop where
 n:1<=y.n/\y.n<=64
 len:1<=y.len/\y.len<=3600000
 st:0<=y.st/\y.st<=86400000
 lo:Ed 1048576 [y.lx,y.ly,y.lz]=true
 hi:Ed 1048576 [y.hx,y.hy,y.hz]=true
 le:y.lx<=y.hx/\y.ly<=y.hy/\y.lz<=y.hz
 sp:1<=y.sp/\y.sp<=10000
 di:1<=y.di/\y.di<=4194304
abbrev Jk:List UInt8:=[97,105,114,99,114,97,102,116]
abbrev Oj:List UInt8:=[108,101,110,103,116,104]
abbrev Zw:List UInt8:=[115,116,97,114,116]
abbrev Ok:List UInt8:=[108,111,119]
abbrev Jm:List UInt8:=[104,105,103,104]
abbrev Sz:List UInt8:=[115,112,101,101,100]
abbrev Jl:List UInt8:=[100,105,115,116,97,110,99,101]
abbrev jP:List UInt8:=[115,97,102,101]
abbrev AbT:List UInt8:=[121,101,115]
abbrev AoR:List UInt8:=[110,111]
def Kh (b:Bool):List UInt8:=if b then AbT else AoR
def Fe (y:Sh):List (List (List UInt8)):=[[Jk,Lib.itoa y.n],[Oj,Lib.itoa y.len],[Zw,Em y.st.toNat],[Ok,Lib.itoa y.lx,Lib.itoa y.ly,Lib.itoa y.lz],[Jm,Lib.itoa y.hx,Lib.itoa y.hy,Lib.itoa y.hz],[Sz,Lib.itoa y.sp],[Jl,Lib.itoa y.di],[jP,Kh y.safe]]
def iX (y:Sh):List (List UInt8):=(Fe y).map (jn 32)++[[]]
def Aa1 (y:Sh):List UInt8:=jn 10 (iX y)
theorem Ah7 (c:UInt8):∀{L:List (List UInt8)} {b:UInt8},b∈jn c L->b=c\/∃x∈L,b∈x
 |[x],b,h=> .inr ⟨x,by simp,h⟩
 |x::y::l,b,h=>by
  rw[jn] at h
  rcases List.mem_append.1 h with h|h
  exact .inr ⟨x,by simp,h⟩
  rcases List.mem_cons.1 h with h|h
  exact .inl h
  rcases Ah7 c h with h|⟨z,h1,h2⟩
  exact .inl h
  exact .inr ⟨z,List.mem_cons_of_mem _ h1,h2⟩
theorem AbJ (y:Sh):∀ws∈Fe y,∀x∈ws,Wd x:=by
 have hs:Wd (Kh y.safe):=by unfold Kh Wd;cases y.safe<;>decide
 have h8:Wd Jk/\Wd Oj/\Wd Zw/\Wd Ok/\Wd Jm/\Wd Sz/\Wd Jl/\Wd jP:=by unfold Wd;decide
 obtain⟨k0,k1,k2,k3,k4,k5,k6,k7⟩:=h8
 intro ws hw x hx
 simp only[Fe,List.mem_cons,List.not_mem_nil,or_false] at hw
 rcases hw with rfl|rfl|rfl|rfl|rfl|rfl|rfl|rfl<;>simp only[List.mem_cons,List.not_mem_nil,or_false] at hx
 rcases hx with rfl|rfl<;>first|assumption|exact Pw _|exact Ly _
 rcases hx with rfl|rfl<;>first|assumption|exact Pw _|exact Ly _
 rcases hx with rfl|rfl<;>first|assumption|exact Pw _|exact Ly _
 rcases hx with rfl|rfl|rfl|rfl<;>first|assumption|exact Pw _|exact Ly _
 rcases hx with rfl|rfl|rfl|rfl<;>first|assumption|exact Pw _|exact Ly _
 rcases hx with rfl|rfl<;>first|assumption|exact Pw _|exact Ly _
 rcases hx with rfl|rfl<;>first|assumption|exact Pw _|exact Ly _
 rcases hx with rfl|rfl<;>first|assumption|exact Pw _|exact Ly _
theorem AlT (y:Sh):∀x∈iX y,(10:UInt8) ∉ x:=by
 intro x hx hm
 rcases List.mem_append.1 hx with hx|hx
 obtain⟨ws,h1,rfl⟩:=List.mem_map.1 hx
 rcases Ah7 32 hm with h|⟨z,h2,h3⟩
 exact absurd h δ
 exact(AbJ y ws h1 z h2).no δ h3
 rw[List.mem_singleton.1 hx] at hm
 cases hm
theorem Hf {n:Int} (h: -4194304<=n/\n<=4194304):(Lib.itoa n).length<=21:=Lib.itoa_length_le n ω ω
end Go.Proofs.YtkpjchfniejdoaaGreatDoor