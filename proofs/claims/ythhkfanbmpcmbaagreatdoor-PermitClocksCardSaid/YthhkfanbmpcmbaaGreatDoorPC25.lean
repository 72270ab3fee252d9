/- Part 25 of the proof of PC.clocks_holds, joined by program: no condition beyond the row's own. -/
import Derived.Test.YthhkfanbmpcmbaaGreatDoorPC24
import Derived.Lib.AppendIntMem
import Derived.Test.YthhkfanbmpcmbaaGreatDoorRows
import Derived.LaidMore
import Derived.OpenShut
import Derived.ShutString
import Derived.ChangeOld
import Derived.Lib.LaidTab
import Derived.Stop.Joined
import Derived.HandedShaped
import Derived.Deep.Fields
set_option maxRecDepth 100000
set_option maxHeartbeats 40000000
namespace Go.Proofs.YthhkfanbmpcmbaaGreatDoor
open Go.Proofs.Tryz
open Go.RowKit
def yN (w:World):Prop:=Lib.TabIs Tryz.prog w "internal/strconv.uint64pow10" .u64 Lib.pow10Tab
def yF (w:World):Prop:=(∃t p,w.var? Tryz.prog "strconv.ErrSyntax"=some #[.iface t p])/\∃t p,w.var? Tryz.prog "strconv.ErrRange"=some #[.iface t p]
theorem Yr {w w':World} {n:String} {cs:Array Value} (h:w.var? Tryz.prog n=some cs) (hb:∀b,b<w.heap.size->w'.heap[b]?=w.heap[b]?):w'.var? Tryz.prog n=some cs:=by
 unfold World.var? at*
 cases hg:Tryz.prog.globalNamed n with
 |none=>rw[hg] at h;cases h
 |some g=>
  rw[hg] at h
  simp only[Option.bind_some] at h ⊢
  cases hc:w.heap[g]? with
  |none=>rw[hc] at h;cases h
  |some o=>rw[hb g (Array.getElem?_eq_some_iff.1 hc).1,hc];rw[hc] at h;exact h
def La (E:Aq):Prop:=∃W:World,yN W/\yF W/\∀b,b<W.heap.size->E.D b/\E.w.heap[b]?=W.heap[b]?
theorem Hc:Ld La:=⟨λhle ⟨W,h1,h2,h3⟩=>⟨W,h1,h2,λb hb=>⟨hle.D b (h3 b hb).1,(hle.blk b (h3 b hb).1).trans (h3 b hb).2⟩⟩,λh=>h,λh=>h⟩
theorem La.at {E:Aq} (h:La E):yN E.w/\yF E.w:=by
 obtain⟨W,h1,⟨⟨t1,p1,e1⟩,t2,p2,e2⟩,h3⟩:=h
 have hb:=λb hb=>(h3 b hb).2
 exact⟨Yr h1 hb,⟨t1,p1,Yr e1 hb⟩,t2,p2,Yr e2 hb⟩
theorem AbG {f:FuncId} {vs:List Value} {v:Value} (h:∀w,yN w->yF w->Calls Tryz.prog f vs.toArray w λe w'=>e= .returned v/\Below w.heap.size w w'):Zn La Tryz.prog f (vs.map .lit) (.lit v):=AdN λE us hT hD hn hv=>by
 have:us=vs.toArray:=VR.lits (E:=E.fz) (by simpa using hn) (VR.tops hv)
 subst this
 refine(h E.w hT.at.1 hT.at.2).mono ?_
 rintro e w' ⟨rfl,hb⟩
 exact⟨v,rfl,hb,λE' _ _ _=> .lit _ _⟩
theorem wN (n:Nat) (h:n<=9223372036854775807):Zn La Tryz.prog 21 [.int (n:Int)] (SA (Lib.decDigits n)):=AbG (vs:=[.int .i64 n]) λw hT _=>(Tryz.strconv_Itoa n ω ω w hT).mono λe w' ⟨he,k,os,hw⟩=>⟨by rw[he,Aas],by rw[hw];exact Lib.below_grow _ w (Nat.le_refl _) k os⟩
theorem Ur (x:UInt8):∀c,Lib.repeatL [x] c=List.replicate c x
 |0=>rfl
 |c+1=>by rw[Lib.repeatL,Ur x c];rfl
theorem AbP (c:Nat) (h:c<=100):AF Tryz.prog 22 [.lit (.string ⟨#[48]⟩),.int (max 0 (c:Int))] (SA (List.replicate c 48)):=by
 rw[Int.max_eq_right ω]
 exact cI (vs:=[.string ⟨#[48]⟩,.int .i64 c]) λw=>(Tryz.strings_Repeat ⟨#[48]⟩ c w ω (by show 1*c<=_;omega)).mono λe w' ⟨he,hb⟩=>⟨by rw[he,show (⟨#[48]⟩:ByteArray).data.toList=[48] from rfl,Ur],hb⟩
theorem oG (n d:Nat) (hn:n<=9223372036854775807) (hd:d<=3) (hl:(Lib.decDigits n).length<=d):Zn La Tryz.prog 13 [.int (n:Int),.int (d:Int)] (SA (AaN n d)):=by
 have hsz:ByteArray.size (BS (Lib.decDigits n))=(Lib.decDigits n).length:=rfl
 refine Pa Hc func13 rfl λB D0 hA0 hT=>?_
 refine Ab 8 (Kg hT (wN n hn) ?_)
 exact Ab 7 (Cn (.int .i64 (ByteArray.size (BS (Lib.decDigits n)):Int)) (.int .i64 (ByteArray.size (BS (Lib.decDigits n)):Int)) (Ig ((d:Int)-(ByteArray.size (BS (Lib.decDigits n)):Int)) ((d-ByteArray.size (BS (Lib.decDigits n)):Nat):Int) (Bb (.int (max 0 ((d-ByteArray.size (BS (Lib.decDigits n)):Nat):Int))) .none (Ni (.const (.int .i64 0)) (.tmp 11) #[3,3] κ 0 ((d-ByteArray.size (BS (Lib.decDigits n)):Nat):Int) κ κ) (Aw (AbP (d-ByteArray.size (BS (Lib.decDigits n))) ω) (Ab 1 (Bb (.lit (.string (BS ((List.replicate (d-ByteArray.size (BS (Lib.decDigits n))) 48)++(Lib.decDigits n))))) .none (Ei 9 9 (.tmp 13) (.tmp 14) (List.replicate (d-ByteArray.size (BS (Lib.decDigits n))) 48) (Lib.decDigits n) κ κ κ (by rw[List.length_replicate];omega)) (Ab 4 (Cy))))))))
theorem gU {n:Nat} (h:n<100):(Lib.decDigits n).length<=2:=by
 rcases Nat.lt_or_ge n 10 with g|g
 rw[Kl g,Ce];decide
 rw[Km g h,Ce];decide
theorem zL {n:Nat} (h:n<1000):(Lib.decDigits n).length<=3:=by
 rcases Nat.lt_or_ge n 100 with g|g
 exact Nat.le_trans (gU g) δ
 rw[Ui g h,Ce];decide
theorem Wa (n:Nat) (h:n<100):Zn La Tryz.prog 13 [.int (n:Int),.int 2] (SA (Av n 2)):=by
 have:=oG n 2 ω ω (gU h)
 rw[AeD h] at this
 exact this
theorem wO (n:Nat) (h:n<1000):Zn La Tryz.prog 13 [.int (n:Int),.int 3] (SA (Av n 3)):=by
 have:=oG n 3 ω ω (zL h)
 rw[AeE h] at this
 exact this
theorem kq (t m:Nat) (k:Int) (hk:k=(m:Int)) (ht:t<=9223372036854775807):Value.int .i64 (IntKind.wrap .i64 (Int.tdiv (t:Int) k))= .int .i64 ((t/m:Nat):Int):=by
 subst hk
 rw[<-Int.ofNat_tdiv]
 have:=Nat.div_le_self t m
 generalize t/m=q at*
 exact congrArg (Value.int .i64) (IntWalk.i64_in _ ω)
theorem kr (t m:Nat) (k:Int) (hk:k=(m:Int)):Value.int .i64 (Int.tmod (t:Int) k)= .int .i64 ((t%m:Nat):Int):=by
 subst hk
 rw[<-Int.ofNat_tmod]
theorem aC (n l h:Int):AF Tryz.prog 12 [.int n,.int l,.int h] (.bool (decide (l<=n/\n<=h))):=by
 refine As func12 rfl λB D0 hA0=>?_
 refine Ab 11 (Mf 10 (l<=n) (λhx1 hx1d=>?_) (λhx1 hx1d=>?_))
 ·
  exact Ab 8 (Fu (.bool (decide (n<=h))) (congrArg AV.bool (decide_eq_decide.2 ω)))
 ·
  exact Ab 8 (Fu (.bool false) (congrArg AV.bool (decide_eq_false ω).symm))
theorem fJ (n:Int):AF Tryz.prog 6 [.int n] (.bool (decide (0<=n/\n<=86400000))):=by
 refine As func6 rfl λB D0 hA0=>?_
 refine Ab 10 (Mf 5 ((0:Int)<=n) (λhx1 hx1d=>?_) (λhx1 hx1d=>?_))
 ·
  exact Ab 7 (Fu (.bool (decide (n<=86400000))) (congrArg AV.bool (decide_eq_decide.2 ω)))
 ·
  exact Ab 7 (Fu (.bool false) (congrArg AV.bool (decide_eq_false ω).symm))
theorem Of (n l h:Int) (hh:l<=n/\n<=h):AF Tryz.prog 12 [.int n,.int l,.int h] (.bool true):=by
 have:=aC n l h
 rwa [decide_eq_true hh] at this
theorem AdQ (n l h:Int) (hh:¬(l<=n/\n<=h)):AF Tryz.prog 12 [.int n,.int l,.int h] (.bool false):=by
 have:=aC n l h
 rwa [decide_eq_false hh] at this
theorem Js (t:Nat) (ht:t<=86400000):Zn La Tryz.prog 5 [.int (t:Int)] (.lit (.tuple #[.string (BS (Fr t)),.int .i64 0])):=by
 refine Pa Hc func5 rfl λB D0 hA0 hT=>?_
 refine Ab 10 (Aw (Of (t:Int) 0 86400000 ω) (Ab 9 (Cn (.int .i64 (IntKind.wrap .i64 (Int.tdiv (t:Int) 3600000))) (.int .i64 ((t/3600000:Nat):Int)) ?_ (kq t 3600000 _ rfl ω))))
 refine Kg hT (Wa (t/3600000) ω) ?_
 refine Bb (.lit (.string (BS ((Av (t/3600000) 2)++([58]))))) .none (Ei 9 9 (.tmp 9) (.const (.string ⟨#[58]⟩)) (Av (t/3600000) 2) ([58]) κ κ κ (by simp only[Ce];decide)) (Ab 1 (Cn (.int .i64 (IntKind.wrap .i64 (Int.tdiv (t:Int) 60000))) (.int .i64 ((t/60000:Nat):Int)) ?_ (kq t 60000 _ rfl ω)))
 refine Cn (.int .i64 (Int.tmod ((t/60000:Nat):Int) 60)) (.int .i64 ((t/60000%60:Nat):Int)) ?_ (kr (t/60000) 60 _ rfl)
 refine Kg hT (Wa (t/60000%60) ω) ?_
 refine Bb (.lit (.string (BS (((Av (t/3600000) 2)++([58]))++(Av (t/60000%60) 2))))) .none (Ei 9 9 (.tmp 10) (.tmp 14) ((Av (t/3600000) 2)++([58])) (Av (t/60000%60) 2) κ κ κ (by simp only[List.length_append,Ce];decide)) (Bb (.lit (.string (BS ((((Av (t/3600000) 2)++([58]))++(Av (t/60000%60) 2))++([58]))))) .none (Ei 9 9 (.tmp 15) (.const (.string ⟨#[58]⟩)) (((Av (t/3600000) 2)++([58]))++(Av (t/60000%60) 2)) ([58]) κ κ κ (by simp only[List.length_append,Ce];decide)) (Ab 1 (Cn (.int .i64 (IntKind.wrap .i64 (Int.tdiv (t:Int) 1000))) (.int .i64 ((t/1000:Nat):Int)) ?_ (kq t 1000 _ rfl ω))))
 refine Cn (.int .i64 (Int.tmod ((t/1000:Nat):Int) 60)) (.int .i64 ((t/1000%60:Nat):Int)) ?_ (kr (t/1000) 60 _ rfl)
 refine Kg hT (Wa (t/1000%60) ω) ?_
 refine Bb (.lit (.string (BS (((((Av (t/3600000) 2)++([58]))++(Av (t/60000%60) 2))++([58]))++(Av (t/1000%60) 2))))) .none (Ei 9 9 (.tmp 16) (.tmp 20) ((((Av (t/3600000) 2)++([58]))++(Av (t/60000%60) 2))++([58])) (Av (t/1000%60) 2) κ κ κ (by simp only[List.length_append,Ce];decide)) (Bb (.lit (.string (BS ((((((Av (t/3600000) 2)++([58]))++(Av (t/60000%60) 2))++([58]))++(Av (t/1000%60) 2))++([46]))))) .none (Ei 9 9 (.tmp 21) (.const (.string ⟨#[46]⟩)) (((((Av (t/3600000) 2)++([58]))++(Av (t/60000%60) 2))++([58]))++(Av (t/1000%60) 2)) ([46]) κ κ κ (by simp only[List.length_append,Ce];decide)) (Ab 1 (Cn (.int .i64 (Int.tmod (t:Int) 1000)) (.int .i64 ((t%1000:Nat):Int)) ?_ (kr t 1000 _ rfl))))
 refine Kg hT (wO (t%1000) ω) ?_
 exact Bb (.lit (.string (BS (((((((Av (t/3600000) 2)++([58]))++(Av (t/60000%60) 2))++([58]))++(Av (t/1000%60) 2))++([46]))++(Av (t%1000) 3))))) .none (Ei 9 9 (.tmp 22) (.tmp 25) ((((((Av (t/3600000) 2)++([58]))++(Av (t/60000%60) 2))++([58]))++(Av (t/1000%60) 2))++([46])) (Av (t%1000) 3) κ κ κ (by simp only[List.length_append,Ce];decide)) (Ab 5 (Cy))
theorem Tk (t:Int) (ht:¬(0<=t/\t<=86400000)):AF Tryz.prog 5 [.int t] (.lit (.tuple #[.string ⟨#[]⟩,.int .i64 2])):=by
 refine As func5 rfl λB D0 hA0=>?_
 exact Ab 10 (Aw (AdQ t 0 86400000 ht) (Ab 12 (Cy)))
theorem Vf (n d:Nat) (hn:n<=9223372036854775807) (hd:d=2\/d=3):AF Tryz.prog 14 [.int (n:Int),.int (d:Int)] (SA (Av n d)):=by
 rcases hd with rfl|rfl
 ·
  refine As func14 rfl λB D0 hA0=>?_
  refine Ab 17 (Qk 2 (Ab 16 (Cn (.int .i64 (Int.tmod (n:Int) 10)) (.int .i64 ((n%10:Nat):Int)) ?_ (kr n 10 _ rfl))))
  refine Ig ((48:Int)+((n%10:Nat):Int)) ((48+n%10:Nat):Int) (Cn (.int .u8 (IntKind.wrap .u8 ((48+n%10:Nat):Int))) (.int .u8 ((48+n%10:Nat):Int)) ?_ (congrArg (Value.int .u8) (IntWalk.u8_in _ ω)))
  refine Bb (.osl 0 1 1) (.new 0 (.vec 5 1 1 (λ_=> .lit (.int .u8 ((48+n%10:Nat):Int))))) (Al 77 1 #[(0,(.tmp 15))] κ underlying77 1 sizeOf5 _ zeroValue5 κ β β β 0 [.lit (.int .u8 ((48+n%10:Nat):Int))] κ (λ_=> .lit (.int .u8 ((48+n%10:Nat):Int))) κ) (Bb (.lit (.string (BS ([UInt8.ofNat (48+(n%10))])))) (.read 0) (Mb 77 9 (.tmp 16) 0 5 (λ_=> .lit (.int .u8 ((48+n%10:Nat):Int))) (n%10) κ underlying77 underlying5 underlying9 κ κ κ ω) (Ab 1 (Bb (.lit (.string (BS (([UInt8.ofNat (48+(n%10))])++([]))))) .none (Ei 9 9 (.tmp 17) (.tmp 18) ([UInt8.ofNat (48+(n%10))]) ([]) κ κ κ β) (Ab 5 (Cn (.int .i64 (IntKind.wrap .i64 (Int.tdiv (n:Int) 10))) (.int .i64 ((n/10:Nat):Int)) ?_ (kq n 10 _ rfl ω))))))
  refine Ab 6 (Cn (.int .i64 1) (.int .i64 1) (Ab 19 (Cn (.int .i64 (Int.tmod ((n/10:Nat):Int) 10)) (.int .i64 ((n/10%10:Nat):Int)) ?_ (kr (n/10) 10 _ rfl))))
  refine Ig ((48:Int)+((n/10%10:Nat):Int)) ((48+n/10%10:Nat):Int) (Cn (.int .u8 (IntKind.wrap .u8 ((48+n/10%10:Nat):Int))) (.int .u8 ((48+n/10%10:Nat):Int)) ?_ (congrArg (Value.int .u8) (IntWalk.u8_in _ ω)))
  refine Bb (.osl 1 1 1) (.new 1 (.vec 5 1 1 (λ_=> .lit (.int .u8 ((48+n/10%10:Nat):Int))))) (Al 77 1 #[(0,(.tmp 15))] κ underlying77 1 sizeOf5 _ zeroValue5 κ β β β 1 [.lit (.int .u8 ((48+n/10%10:Nat):Int))] κ (λ_=> .lit (.int .u8 ((48+n/10%10:Nat):Int))) κ) (Bb (.lit (.string (BS ([UInt8.ofNat (48+(n/10%10))])))) (.read 1) (Mb 77 9 (.tmp 16) 1 5 (λ_=> .lit (.int .u8 ((48+n/10%10:Nat):Int))) (n/10%10) κ underlying77 underlying5 underlying9 κ κ κ ω) (Ab 1 (Bb (.lit (.string (BS (([UInt8.ofNat (48+(n/10%10))])++(([UInt8.ofNat (48+(n%10))])++([])))))) .none (Ei 9 9 (.tmp 17) (.tmp 18) ([UInt8.ofNat (48+(n/10%10))]) (([UInt8.ofNat (48+(n%10))])++([])) κ κ κ β) (Ab 5 (Cn (.int .i64 (IntKind.wrap .i64 (Int.tdiv ((n/10:Nat):Int) 10))) (.int .i64 ((n/10/10:Nat):Int)) ?_ (kq (n/10) 10 _ rfl ω))))))
  exact Ab 6 (Cn (.int .i64 2) (.int .i64 2) (Ab 24 (Cy)))
 ·
  refine As func14 rfl λB D0 hA0=>?_
  refine Ab 17 (Qk 3 (Ab 16 (Cn (.int .i64 (Int.tmod (n:Int) 10)) (.int .i64 ((n%10:Nat):Int)) ?_ (kr n 10 _ rfl))))
  refine Ig ((48:Int)+((n%10:Nat):Int)) ((48+n%10:Nat):Int) (Cn (.int .u8 (IntKind.wrap .u8 ((48+n%10:Nat):Int))) (.int .u8 ((48+n%10:Nat):Int)) ?_ (congrArg (Value.int .u8) (IntWalk.u8_in _ ω)))
  refine Bb (.osl 0 1 1) (.new 0 (.vec 5 1 1 (λ_=> .lit (.int .u8 ((48+n%10:Nat):Int))))) (Al 77 1 #[(0,(.tmp 15))] κ underlying77 1 sizeOf5 _ zeroValue5 κ β β β 0 [.lit (.int .u8 ((48+n%10:Nat):Int))] κ (λ_=> .lit (.int .u8 ((48+n%10:Nat):Int))) κ) (Bb (.lit (.string (BS ([UInt8.ofNat (48+(n%10))])))) (.read 0) (Mb 77 9 (.tmp 16) 0 5 (λ_=> .lit (.int .u8 ((48+n%10:Nat):Int))) (n%10) κ underlying77 underlying5 underlying9 κ κ κ ω) (Ab 1 (Bb (.lit (.string (BS (([UInt8.ofNat (48+(n%10))])++([]))))) .none (Ei 9 9 (.tmp 17) (.tmp 18) ([UInt8.ofNat (48+(n%10))]) ([]) κ κ κ β) (Ab 5 (Cn (.int .i64 (IntKind.wrap .i64 (Int.tdiv (n:Int) 10))) (.int .i64 ((n/10:Nat):Int)) ?_ (kq n 10 _ rfl ω))))))
  refine Ab 6 (Cn (.int .i64 1) (.int .i64 1) (Ab 19 (Cn (.int .i64 (Int.tmod ((n/10:Nat):Int) 10)) (.int .i64 ((n/10%10:Nat):Int)) ?_ (kr (n/10) 10 _ rfl))))
  refine Ig ((48:Int)+((n/10%10:Nat):Int)) ((48+n/10%10:Nat):Int) (Cn (.int .u8 (IntKind.wrap .u8 ((48+n/10%10:Nat):Int))) (.int .u8 ((48+n/10%10:Nat):Int)) ?_ (congrArg (Value.int .u8) (IntWalk.u8_in _ ω)))
  refine Bb (.osl 1 1 1) (.new 1 (.vec 5 1 1 (λ_=> .lit (.int .u8 ((48+n/10%10:Nat):Int))))) (Al 77 1 #[(0,(.tmp 15))] κ underlying77 1 sizeOf5 _ zeroValue5 κ β β β 1 [.lit (.int .u8 ((48+n/10%10:Nat):Int))] κ (λ_=> .lit (.int .u8 ((48+n/10%10:Nat):Int))) κ) (Bb (.lit (.string (BS ([UInt8.ofNat (48+(n/10%10))])))) (.read 1) (Mb 77 9 (.tmp 16) 1 5 (λ_=> .lit (.int .u8 ((48+n/10%10:Nat):Int))) (n/10%10) κ underlying77 underlying5 underlying9 κ κ κ ω) (Ab 1 (Bb (.lit (.string (BS (([UInt8.ofNat (48+(n/10%10))])++(([UInt8.ofNat (48+(n%10))])++([])))))) .none (Ei 9 9 (.tmp 17) (.tmp 18) ([UInt8.ofNat (48+(n/10%10))]) (([UInt8.ofNat (48+(n%10))])++([])) κ κ κ β) (Ab 5 (Cn (.int .i64 (IntKind.wrap .i64 (Int.tdiv ((n/10:Nat):Int) 10))) (.int .i64 ((n/10/10:Nat):Int)) ?_ (kq (n/10) 10 _ rfl ω))))))
  refine Ab 6 (Cn (.int .i64 2) (.int .i64 2) (Ab 19 (Cn (.int .i64 (Int.tmod ((n/10/10:Nat):Int) 10)) (.int .i64 ((n/10/10%10:Nat):Int)) ?_ (kr (n/10/10) 10 _ rfl))))
  refine Ig ((48:Int)+((n/10/10%10:Nat):Int)) ((48+n/10/10%10:Nat):Int) (Cn (.int .u8 (IntKind.wrap .u8 ((48+n/10/10%10:Nat):Int))) (.int .u8 ((48+n/10/10%10:Nat):Int)) ?_ (congrArg (Value.int .u8) (IntWalk.u8_in _ ω)))
  refine Bb (.osl 2 1 1) (.new 2 (.vec 5 1 1 (λ_=> .lit (.int .u8 ((48+n/10/10%10:Nat):Int))))) (Al 77 1 #[(0,(.tmp 15))] κ underlying77 1 sizeOf5 _ zeroValue5 κ β β β 2 [.lit (.int .u8 ((48+n/10/10%10:Nat):Int))] κ (λ_=> .lit (.int .u8 ((48+n/10/10%10:Nat):Int))) κ) (Bb (.lit (.string (BS ([UInt8.ofNat (48+(n/10/10%10))])))) (.read 2) (Mb 77 9 (.tmp 16) 2 5 (λ_=> .lit (.int .u8 ((48+n/10/10%10:Nat):Int))) (n/10/10%10) κ underlying77 underlying5 underlying9 κ κ κ ω) (Ab 1 (Bb (.lit (.string (BS (([UInt8.ofNat (48+(n/10/10%10))])++(([UInt8.ofNat (48+(n/10%10))])++(([UInt8.ofNat (48+(n%10))])++([]))))))) .none (Ei 9 9 (.tmp 17) (.tmp 18) ([UInt8.ofNat (48+(n/10/10%10))]) (([UInt8.ofNat (48+(n/10%10))])++(([UInt8.ofNat (48+(n%10))])++([]))) κ κ κ β) (Ab 5 (Cn (.int .i64 (IntKind.wrap .i64 (Int.tdiv ((n/10/10:Nat):Int) 10))) (.int .i64 ((n/10/10/10:Nat):Int)) ?_ (kq (n/10/10) 10 _ rfl ω))))))
  exact Ab 6 (Cn (.int .i64 3) (.int .i64 3) (Ab 24 (Cy)))
theorem Mk (t:Nat) (ht:t<=86400000):AF Tryz.prog 7 [.int (t:Int)] (SA (Fr t)):=by
 refine As func7 rfl λB D0 hA0=>?_
 refine Ab 8 (Cn (.int .i64 (IntKind.wrap .i64 (Int.tdiv (t:Int) 3600000))) (.int .i64 ((t/3600000:Nat):Int)) ?_ (kq t 3600000 _ rfl ω))
 refine Aw (Vf (t/3600000) 2 ω δ) (Bb (.lit (.string (BS ((Av (t/3600000) 2)++([58]))))) .none (Ei 9 9 (.tmp 5) (.const (.string ⟨#[58]⟩)) (Av (t/3600000) 2) ([58]) κ κ κ (by simp only[Ce];decide)) (Ab 1 (Cn (.int .i64 (IntKind.wrap .i64 (Int.tdiv (t:Int) 60000))) (.int .i64 ((t/60000:Nat):Int)) ?_ (kq t 60000 _ rfl ω))))
 refine Cn (.int .i64 (Int.tmod ((t/60000:Nat):Int) 60)) (.int .i64 ((t/60000%60:Nat):Int)) ?_ (kr (t/60000) 60 _ rfl)
 refine Aw (Vf (t/60000%60) 2 ω δ) (Bb (.lit (.string (BS (((Av (t/3600000) 2)++([58]))++(Av (t/60000%60) 2))))) .none (Ei 9 9 (.tmp 6) (.tmp 10) ((Av (t/3600000) 2)++([58])) (Av (t/60000%60) 2) κ κ κ (by simp only[List.length_append,Ce];decide)) (Bb (.lit (.string (BS ((((Av (t/3600000) 2)++([58]))++(Av (t/60000%60) 2))++([58]))))) .none (Ei 9 9 (.tmp 11) (.const (.string ⟨#[58]⟩)) (((Av (t/3600000) 2)++([58]))++(Av (t/60000%60) 2)) ([58]) κ κ κ (by simp only[List.length_append,Ce];decide)) (Ab 1 (Cn (.int .i64 (IntKind.wrap .i64 (Int.tdiv (t:Int) 1000))) (.int .i64 ((t/1000:Nat):Int)) ?_ (kq t 1000 _ rfl ω)))))
 refine Cn (.int .i64 (Int.tmod ((t/1000:Nat):Int) 60)) (.int .i64 ((t/1000%60:Nat):Int)) ?_ (kr (t/1000) 60 _ rfl)
 refine Aw (Vf (t/1000%60) 2 ω δ) (Bb (.lit (.string (BS (((((Av (t/3600000) 2)++([58]))++(Av (t/60000%60) 2))++([58]))++(Av (t/1000%60) 2))))) .none (Ei 9 9 (.tmp 12) (.tmp 16) ((((Av (t/3600000) 2)++([58]))++(Av (t/60000%60) 2))++([58])) (Av (t/1000%60) 2) κ κ κ (by simp only[List.length_append,Ce];decide)) (Bb (.lit (.string (BS ((((((Av (t/3600000) 2)++([58]))++(Av (t/60000%60) 2))++([58]))++(Av (t/1000%60) 2))++([46]))))) .none (Ei 9 9 (.tmp 17) (.const (.string ⟨#[46]⟩)) (((((Av (t/3600000) 2)++([58]))++(Av (t/60000%60) 2))++([58]))++(Av (t/1000%60) 2)) ([46]) κ κ κ (by simp only[List.length_append,Ce];decide)) (Ab 1 (Cn (.int .i64 (Int.tmod (t:Int) 1000)) (.int .i64 ((t%1000:Nat):Int)) ?_ (kr t 1000 _ rfl)))))
 exact Aw (Vf (t%1000) 3 ω δ) (Bb (.lit (.string (BS (((((((Av (t/3600000) 2)++([58]))++(Av (t/60000%60) 2))++([58]))++(Av (t/1000%60) 2))++([46]))++(Av (t%1000) 3))))) .none (Ei 9 9 (.tmp 18) (.tmp 21) ((((((Av (t/3600000) 2)++([58]))++(Av (t/60000%60) 2))++([58]))++(Av (t/1000%60) 2))++([46])) (Av (t%1000) 3) κ κ κ (by simp only[List.length_append,Ce];decide)) (Ab 4 (Cy)))
def Ww (s:ByteArray) (j:Int×Nat):AV:=match Lib.atoiAll s.data.toList with
 | .ok v=> .lit (.tuple #[.int .i64 v,.nilIface])
 |_=> .lit (.tuple #[.int .i64 j.1,.iface 101 (.pointer (some ⟨j.2,0,none⟩))])
theorem wK (s:ByteArray) (hs:s.size<=1000000):AFE La Tryz.prog 15 [.lit (.string s)] (Ww s):=by
 intro E us hT hD hn hv
 have:us=#[.string s]:=VR.lits (E:=E.fz) (l:=[.string s]) (by simpa using hn) (VR.tops hv)
 subst this
 have done:∀(v:Value) (e:Ending) (w':World) (j:Int×Nat),e= .returned v->Below E.w.heap.size E.w w'->Ww s j= .lit v->∃j v D',e= .returned v/\VR { E with D:=D',w:=w' } (Ww s j) v/\Below E.w.heap.size E.w w'/\(∀b,E.D b->D' b)/\(∀b,D' b->E.D b\/E.w.heap.size<=b)/\(∀b,D' b->b<w'.heap.size):=by
  intro v e w' j he hb hj
  exact⟨j,v,E.D,he,by rw[hj];exact .lit _ _,hb,λ_ h=>h,λ_ h=> .inl h,λb hb'=>Nat.lt_of_lt_of_le (hD b hb') hb.size⟩
 cases hA:Lib.atoiAll s.data.toList with
 |ok v=>
  refine(Tryz.strconv_Atoi_ok s ω v hA E.w).mono ?_
  rintro e w1 ⟨he,hw1⟩
  refine done _ _ _ (0,0) he ?_ (by unfold Ww;rw[hA])
  rcases hw1 with h|⟨t,h⟩
  rw[h];exact Below.refl _ _
  rw[h];exact Lib.bytesWorld_below _ _ _
 |range=>
  obtain⟨t,p,h⟩:=hT.at.2.2
  refine(Any.strconv_Atoi_range_var Tryz.laysC172 s ω hA t p E.w h).mono ?_
  rintro e w' ⟨N,he,_,_,hb⟩
  exact done _ _ _ (_,N) he hb (by unfold Ww;rw[hA];rfl)
 |_=>
  obtain⟨t,p,h⟩:=hT.at.2.1
  refine(Any.strconv_Atoi_syntax_var Tryz.laysC172 s ω hA t p E.w h).mono ?_
  rintro e w' ⟨N,he,_,_,hb⟩
  exact done _ _ _ (0,N) he hb (by unfold Ww;rw[hA];rfl)
theorem qR {R:Option Nat} {B:Nat} {D0:Aq} {Q:Exit->St->Prop} {c:Bv} (hT:Ld La/\La D0) (s:ByteArray) (hs:s.size<=1000000) (h1:∀v,Lib.atoiAll s.data.toList= .ok v->Go Tryz.prog R B D0 Q (c.put (.lit (.tuple #[.int .i64 v,.nilIface])) .none))
  (h2:(∀v,Lib.atoiAll s.data.toList≠.ok v)->∀(n:Int) (N:Nat),Go Tryz.prog R B D0 Q (c.put (.lit (.tuple #[.int .i64 n,.iface 101 (.pointer (some ⟨N,0,none⟩))])) .none)) (ho:c.o.op= .call { callee:= .value (.func 15),args:=c.xs,argTypes:=c.ts }:=by kernel_rfl) (hargs:c.xs.toList.map c.s.ev=[.lit (.string s)]:=by kernel_rfl) (hok:c.ok=true:=by kernel_rfl) (hg:c.o.guard=none:=by kernel_rfl) (hcall:∀(vs:Array Value) w,(callFunc 15 vs).run Tryz.prog w= .ok (.enter 15 vs) w:=by intro _ _;kernel_rfl):Go Tryz.prog R B D0 Q c:=by
 refine AgS hT (wK s hs) (λj=>?_) ho hargs rfl hok hg hcall
 unfold Ww
 cases hA:Lib.atoiAll s.data.toList with
 |ok v=>exact h1 v hA
 |range=>exact h2 (λv e=>by rw[hA] at e;cases e) j.1 j.2
 |_=>exact h2 (λv e=>by rw[hA] at e;cases e) j.1 j.2
def Vt (s:ByteArray):Option Int:=match Lib.atoiAll s.data.toList with| .ok v=>if v<0 then none else some v|_=>none
theorem Iy {s:ByteArray} {v:Int} (h:Lib.atoiAll s.data.toList= .ok v) (hv:¬v<0):Vt s=some v:=by unfold Vt;rw[h];exact if_neg hv
theorem Vu {s:ByteArray} {v:Int} (h:Lib.atoiAll s.data.toList= .ok v) (hv:v<0):Vt s=none:=by unfold Vt;rw[h];exact if_pos hv
theorem eF {s:ByteArray} (h:∀v,Lib.atoiAll s.data.toList≠.ok v):Vt s=none:=by
 unfold Vt
 cases hA:Lib.atoiAll s.data.toList with
 |ok v=>exact absurd hA (h v)
 |range=>rfl
 |_=>rfl
def Dg (t v k:Int):Int:=IntKind.wrap .i64 (t+IntKind.wrap .i64 (v*k))
def Ix (s:ByteArray):Option Int:=
 (Vt (s.extract 0 2)).bind λa=>(Vt (s.extract 3 5)).bind λb=>(Vt (s.extract 6 8)).bind λc=>(Vt (s.extract 9 12)).bind λd=>some (Dg (Dg (Dg (Dg 0 a 3600000) b 60000) c 1000) d 1)
def Hq (s:ByteArray):Option Nat:=if s.size=12 then (Ix s).bind λt=>if 0<=t/\t<=86400000/\BS (Fr t.toNat)=s then some t.toNat else none else none
def Hr (s:ByteArray):AV:=match Hq s with
 |some n=> .lit (.tuple #[.int .i64 (n:Int),.int .i64 0])
 |none=> .lit (.tuple #[.int .i64 0,.int .i64 6])
theorem Kv {s:ByteArray} {n:Nat} (h:Hq s=some n):n<=86400000/\BS (Fr n)=s:=by
 unfold Hq at h
 split at h
 cases ht:Ix s with
 |none=>rw[ht] at h;cases h
 |some t=>
  rw[ht] at h
  simp only[Option.bind_some] at h
  split at h
  rename_i h1
  cases h
  exact⟨ω,h1.2.2⟩
  cases h
 cases h
abbrev Yw:AV:= .lit (.tuple #[.int .i64 0,.int .i64 6])
theorem Sy {s:ByteArray} (h:Hq s=none):Yw=Hr s:=by unfold Hr;rw[h]
theorem AcR {s:ByteArray} (h:¬s.size=12):Yw=Hr s:=Sy (if_neg h)
theorem eN {s:ByteArray} (h:Ix s=none):Yw=Hr s:=Sy (by unfold Hq;rw[h];split<;>rfl)
theorem AfJ {s:ByteArray} (h:Vt (s.extract 0 2)=none):Yw=Hr s:=eN (by unfold Ix;rw[h];rfl)
theorem AfK {s:ByteArray} (h:Vt (s.extract 3 5)=none):Yw=Hr s:=eN (by unfold Ix;rw[h];cases Vt (s.extract 0 2)<;>rfl)
theorem AfL {s:ByteArray} (h:Vt (s.extract 6 8)=none):Yw=Hr s:=eN (by unfold Ix;rw[h];cases Vt (s.extract 0 2)<;>cases Vt (s.extract 3 5)<;>rfl)
theorem AfM {s:ByteArray} (h:Vt (s.extract 9 12)=none):Yw=Hr s:=eN (by unfold Ix;rw[h];cases Vt (s.extract 0 2)<;>cases Vt (s.extract 3 5)<;>cases Vt (s.extract 6 8)<;>rfl)
theorem eE {s:ByteArray} {a b c d:Int} (ha:Vt (s.extract 0 2)=some a) (hb:Vt (s.extract 3 5)=some b) (hc:Vt (s.extract 6 8)=some c) (hd:Vt (s.extract 9 12)=some d):Ix s=some (Dg (Dg (Dg (Dg 0 a 3600000) b 60000) c 1000) d 1):=by unfold Ix;rw[ha,hb,hc,hd];rfl
theorem AeI {s:ByteArray} {t:Int} (h:Ix s=some t) (ht:¬(0<=t/\t<=86400000)):Yw=Hr s:=Sy (by
 unfold Hq
 rw[h]
 split
 exact if_neg λg=>ht ⟨g.1,g.2.1⟩
 rfl)
theorem AcQ {s:ByteArray} {t:Int} (h:Ix s=some t) (hd:BS (Fr t.toNat)≠s):Yw=Hr s:=Sy (by
 unfold Hq
 rw[h]
 split
 exact if_neg λg=>hd g.2.2
 rfl)
theorem AfN {s:ByteArray} {t:Int} (hs:s.size=12) (h:Ix s=some t) (ht:0<=t/\t<=86400000) (hd:BS (Fr t.toNat)=s):(.lit (.tuple #[.int .i64 t,.int .i64 0]):AV)=Hr s:=by
 have e:Hq s=some t.toNat:=by
  unfold Hq
  rw[if_pos hs,h]
  exact if_pos ⟨ht.1,ht.2,hd⟩
 unfold Hr
 rw[e]
 show _=AV.lit (.tuple #[.int .i64 (t.toNat:Int),.int .i64 0])
 rw[Int.toNat_of_nonneg ht.1]
theorem kR (t:Int) (ht:0<=t/\t<=86400000):Zn La Tryz.prog 5 [.int t] (.lit (.tuple #[.string (BS (Fr t.toNat)),.int .i64 0])):=by
 have h:=Js t.toNat ω
 rwa [Int.toNat_of_nonneg ht.1] at h
theorem Ag4 {a b:ByteArray} (h:(a.toList==b.toList)=true):a=b:=by
 have h2:=eq_of_beq h
 rw[ByteArray.toList_eq,ByteArray.toList_eq] at h2
 exact ByteArray.ext (Array.toList_inj.1 h2)
theorem Ag5 {a b:ByteArray} (h:(a.toList==b.toList)=false):a≠b:=λe=>by
 rw[e] at h
 simp at h
theorem Zo (s:ByteArray):Zn La Tryz.prog 8 [.lit (.string s)] (Hr s):=by
 refine Pa Hc func8 rfl λB D0 hA0 hT=>?_
 refine Ab 10 (Cn (.int .i64 (ByteArray.size s:Int)) (.int .i64 (ByteArray.size s:Int)) (Ab 3 (Agg 13 ((ByteArray.size s:Int)=12) (λhx1 hx1d=>?_) (λhx1 hx1d=>?_))))
 ·
  refine Ab 20 (Qk 4 (Ab 13 (Cn (.agg #[.int .i64 0,.int .i64 2,.int .i64 3600000]) (.agg #[.int .i64 0,.int .i64 2,.int .i64 3600000]) (Ab 7 (Bb (.ptr 0 0) .none (Ai 52 (.tmp 6) (.const (.int .i64 0)) κ underlying52 0 0 1 0 0 κ κ sizeOf3 δ ω δ) (Ab 1 (Bb (.ptr 0 1) .none (Ai 52 (.tmp 6) (.const (.int .i64 1)) κ underlying52 0 0 1 1 1 κ κ sizeOf3 δ ω δ) (Ab 1 (Bb (.lit (.string (s.extract 0 2))) .none (Vq 9 (.tmp 23) (.tmp 25) (.tmp 27) s 0 2 0 2 κ underlying9 κ κ κ rfl rfl ω ω) (qR hT (s.extract 0 2) (by rw[ByteArray.size_extract];omega) (λv0 ha0=>?_) (λha0 n0 N0=>?_)))))))))))
  ·
   refine Ab 11 (Cn (.bool false) (.bool false) (Ab 6 (Mf 37 (v0<0) (λhx2 hx2d=>?_) (λhx2 hx2d=>?_))))
   ·
    exact Ab 14 (Fu (.lit (.tuple #[.int .i64 0,.int .i64 6])) (AfJ (Vu ha0 hx2d)))
   ·
    refine Ab 6 (Bb (.ptr 0 2) .none (Ai 52 (.tmp 6) (.const (.int .i64 2)) κ underlying52 0 0 1 2 2 κ κ sizeOf3 δ ω δ) (Ab 1 (Cn (.int .i64 (IntKind.wrap .i64 (v0*3600000))) (.int .i64 (IntKind.wrap .i64 (v0*3600000))) (Cn (.int .i64 (IntKind.wrap .i64 ((0:Int)+IntKind.wrap .i64 (v0*3600000)))) (.int .i64 (Dg 0 v0 3600000)) ?_ rfl))))
    refine Ab 5 (Cn (.int .i64 1) (.int .i64 1) (Ab 16 (Cn (.agg #[.int .i64 3,.int .i64 5,.int .i64 60000]) (.agg #[.int .i64 3,.int .i64 5,.int .i64 60000]) (Ab 7 (Bb (.ptr 1 0) .none (Ai 52 (.tmp 6) (.const (.int .i64 0)) κ underlying52 1 0 1 0 0 κ κ sizeOf3 δ ω δ) (Ab 1 (Bb (.ptr 1 1) .none (Ai 52 (.tmp 6) (.const (.int .i64 1)) κ underlying52 1 0 1 1 1 κ κ sizeOf3 δ ω δ) (Ab 1 (Bb (.lit (.string (s.extract 3 5))) .none (Vq 9 (.tmp 23) (.tmp 25) (.tmp 27) s 3 5 3 5 κ underlying9 κ κ κ rfl rfl ω ω) (qR hT (s.extract 3 5) (by rw[ByteArray.size_extract];omega) (λv1 ha1=>?_) (λha1 n1 N1=>?_)))))))))))
    ·
     refine Ab 11 (Cn (.bool false) (.bool false) (Ab 6 (Mf 37 (v1<0) (λhx3 hx3d=>?_) (λhx3 hx3d=>?_))))
     ·
      exact Ab 14 (Fu (.lit (.tuple #[.int .i64 0,.int .i64 6])) (AfK (Vu ha1 hx3d)))
     ·
      refine Ab 6 (Bb (.ptr 1 2) .none (Ai 52 (.tmp 6) (.const (.int .i64 2)) κ underlying52 1 0 1 2 2 κ κ sizeOf3 δ ω δ) (Ab 1 (Cn (.int .i64 (IntKind.wrap .i64 (v1*60000))) (.int .i64 (IntKind.wrap .i64 (v1*60000))) (Cn (.int .i64 (IntKind.wrap .i64 (Dg 0 v0 3600000+IntKind.wrap .i64 (v1*60000)))) (.int .i64 (Dg (Dg 0 v0 3600000) v1 60000)) ?_ rfl))))
      refine Ab 5 (Cn (.int .i64 2) (.int .i64 2) (Ab 16 (Cn (.agg #[.int .i64 6,.int .i64 8,.int .i64 1000]) (.agg #[.int .i64 6,.int .i64 8,.int .i64 1000]) (Ab 7 (Bb (.ptr 2 0) .none (Ai 52 (.tmp 6) (.const (.int .i64 0)) κ underlying52 2 0 1 0 0 κ κ sizeOf3 δ ω δ) (Ab 1 (Bb (.ptr 2 1) .none (Ai 52 (.tmp 6) (.const (.int .i64 1)) κ underlying52 2 0 1 1 1 κ κ sizeOf3 δ ω δ) (Ab 1 (Bb (.lit (.string (s.extract 6 8))) .none (Vq 9 (.tmp 23) (.tmp 25) (.tmp 27) s 6 8 6 8 κ underlying9 κ κ κ rfl rfl ω ω) (qR hT (s.extract 6 8) (by rw[ByteArray.size_extract];omega) (λv2 ha2=>?_) (λha2 n2 N2=>?_)))))))))))
      ·
       refine Ab 11 (Cn (.bool false) (.bool false) (Ab 6 (Mf 37 (v2<0) (λhx4 hx4d=>?_) (λhx4 hx4d=>?_))))
       ·
        exact Ab 14 (Fu (.lit (.tuple #[.int .i64 0,.int .i64 6])) (AfL (Vu ha2 hx4d)))
       ·
        refine Ab 6 (Bb (.ptr 2 2) .none (Ai 52 (.tmp 6) (.const (.int .i64 2)) κ underlying52 2 0 1 2 2 κ κ sizeOf3 δ ω δ) (Ab 1 (Cn (.int .i64 (IntKind.wrap .i64 (v2*1000))) (.int .i64 (IntKind.wrap .i64 (v2*1000))) (Cn (.int .i64 (IntKind.wrap .i64 (Dg (Dg 0 v0 3600000) v1 60000+IntKind.wrap .i64 (v2*1000)))) (.int .i64 (Dg (Dg (Dg 0 v0 3600000) v1 60000) v2 1000)) ?_ rfl))))
        refine Ab 5 (Cn (.int .i64 3) (.int .i64 3) (Ab 16 (Cn (.agg #[.int .i64 9,.int .i64 12,.int .i64 1]) (.agg #[.int .i64 9,.int .i64 12,.int .i64 1]) (Ab 7 (Bb (.ptr 3 0) .none (Ai 52 (.tmp 6) (.const (.int .i64 0)) κ underlying52 3 0 1 0 0 κ κ sizeOf3 δ ω δ) (Ab 1 (Bb (.ptr 3 1) .none (Ai 52 (.tmp 6) (.const (.int .i64 1)) κ underlying52 3 0 1 1 1 κ κ sizeOf3 δ ω δ) (Ab 1 (Bb (.lit (.string (s.extract 9 12))) .none (Vq 9 (.tmp 23) (.tmp 25) (.tmp 27) s 9 12 9 12 κ underlying9 κ κ κ rfl rfl ω ω) (qR hT (s.extract 9 12) (by rw[ByteArray.size_extract];omega) (λv3 ha3=>?_) (λha3 n3 N3=>?_)))))))))))
        ·
         refine Ab 11 (Cn (.bool false) (.bool false) (Ab 6 (Mf 37 (v3<0) (λhx5 hx5d=>?_) (λhx5 hx5d=>?_))))
         ·
          exact Ab 14 (Fu (.lit (.tuple #[.int .i64 0,.int .i64 6])) (AfM (Vu ha3 hx5d)))
         ·
          refine Ab 6 (Bb (.ptr 3 2) .none (Ai 52 (.tmp 6) (.const (.int .i64 2)) κ underlying52 3 0 1 2 2 κ κ sizeOf3 δ ω δ) (Ab 1 (Cn (.int .i64 (IntKind.wrap .i64 (v3*1))) (.int .i64 (IntKind.wrap .i64 (v3*1))) (Cn (.int .i64 (IntKind.wrap .i64 (Dg (Dg (Dg 0 v0 3600000) v1 60000) v2 1000+IntKind.wrap .i64 (v3*1)))) (.int .i64 (Dg (Dg (Dg (Dg 0 v0 3600000) v1 60000) v2 1000) v3 1)) ?_ rfl))))
          refine Ab 5 (Cn (.int .i64 4) (.int .i64 4) (Ab 19 (vsp (0<=(Dg (Dg (Dg (Dg 0 v0 3600000) v1 60000) v2 1000) v3 1)/\(Dg (Dg (Dg (Dg 0 v0 3600000) v1 60000) v2 1000) v3 1)<=86400000) (λhx6 hx6d=>?_) (λhx6 hx6d=>?_))))
          ·
           refine Kg hT (kR (Dg (Dg (Dg (Dg 0 v0 3600000) v1 60000) v2 1000) v3 1) hx6d) ?_
           refine Ab 14 (Cn (.bool (!((BS (Fr (Int.toNat (Dg (Dg (Dg (Dg 0 v0 3600000) v1 60000) v2 1000) v3 1)))).toList==s.toList))) (.bool (!((BS (Fr (Int.toNat (Dg (Dg (Dg (Dg 0 v0 3600000) v1 60000) v2 1000) v3 1)))).toList==s.toList))) (Ab 3 (Afc 56 ((BS (Fr (Int.toNat (Dg (Dg (Dg (Dg 0 v0 3600000) v1 60000) v2 1000) v3 1)))).toList==s.toList) (λhx7=>?_) (λhx7=>?_))))
           ·
            exact Ab 11 (Fu (.lit (.tuple #[.int .i64 (Dg (Dg (Dg (Dg 0 v0 3600000) v1 60000) v2 1000) v3 1),.int .i64 0])) (AfN ω (eE (Iy ha0 hx2d) (Iy ha1 hx3d) (Iy ha2 hx4d) (Iy ha3 hx5d)) hx6d (Ag4 hx7)))
           ·
            exact Ab 9 (Fu (.lit (.tuple #[.int .i64 0,.int .i64 6])) (AcQ (eE (Iy ha0 hx2d) (Iy ha1 hx3d) (Iy ha2 hx4d) (Iy ha3 hx5d)) (Ag5 hx7)))
          ·
           exact Aw (Tk (Dg (Dg (Dg (Dg 0 v0 3600000) v1 60000) v2 1000) v3 1) hx6d) (Ab 27 (Fu (.lit (.tuple #[.int .i64 0,.int .i64 6])) (AeI (eE (Iy ha0 hx2d) (Iy ha1 hx3d) (Iy ha2 hx4d) (Iy ha3 hx5d)) hx6d)))
        ·
         exact Ab 11 (Cn (.bool true) (.bool true) (Ab 20 (Fu (.lit (.tuple #[.int .i64 0,.int .i64 6])) (AfM (eF ha3)))))
      ·
       exact Ab 11 (Cn (.bool true) (.bool true) (Ab 20 (Fu (.lit (.tuple #[.int .i64 0,.int .i64 6])) (AfL (eF ha2)))))
    ·
     exact Ab 11 (Cn (.bool true) (.bool true) (Ab 20 (Fu (.lit (.tuple #[.int .i64 0,.int .i64 6])) (AfK (eF ha1)))))
  ·
   exact Ab 11 (Cn (.bool true) (.bool true) (Ab 20 (Fu (.lit (.tuple #[.int .i64 0,.int .i64 6])) (AfJ (eF ha0)))))
 ·
  exact Ab 9 (Fu (.lit (.tuple #[.int .i64 0,.int .i64 6])) (AcR ω))
theorem Aft {f:FuncId} {args args':List AV} {r r':AV} (h:AF Tryz.prog f args r) (hl:args'.length=args.length) (ha:∀i,i<args.length->∀E v,VR E (args'.getD i .top) v->VR E (args.getD i .top) v) (hr:∀E v,VR E r v->VR E r' v):AF Tryz.prog f args' r':=λE vs hD hn hv=>by
 refine Calls.mono (h E vs hD ω λi hi=>ha i hi _ _ (hv i ω)) ?_
 rintro e w' ⟨v,D',h1,h2,h3⟩
 exact⟨v,D',h1,hr _ _ h2,h3⟩
abbrev Ael (p:Nat->Int) (m:Nat) (a b d:Int):Nat->Int:=cN p m a b d (m-1)
theorem fG (p:Nat->Int) (a b d:Int) (ha:Dd a) (hb:Dd b) (hd:Dd d) (hdp:0<d):AF Tryz.prog 129 [Cj 0 p,WA a,WA b,WA d] (.lit (.tuple #[.slice none 0 0,.int .i64 0])):=by
 refine As func129 rfl λB D0 hA0=>?_
 exact Ab 13 (Aw (Mm 0 p ω (λi hi=>absurd hi (Nat.not_lt_zero i)) (.inl rfl)) (Ab 3 (Aw (Dj _ (Hb ha)) (Ab 4 (Aw (Dj _ (Hb hb)) (Ab 4 (Aw (Dj _ (Hb hd)) (Ab 11 (Aw (Lo d (Hb hd)) (Ab 3 (Lj 37 (decide (d.sign<=0)) false (decide_eq_false (by rw[Int.sign_eq_one_of_pos hdp];decide)) (Ab 20 (Cy)))))))))))))
theorem VR.nil_poly {E:Aq} {v:Value} {c:Nat->Int} {e:Int} (h:VR E (.lit (.tuple #[.slice none 0 0,.int .i64 e])) v):VR E (.tup [Cj 0 c,.int e]) v:=by
 have:=h.lit_inv
 subst this
 refine .tup _ _ _ rfl λi hi=>?_
 match i,hi with
 |0,_=>exact .sl0 _ _ _ _ _
 |1,_=>exact .lit _ _
theorem lD (m:Nat) (p:Nat->Int) (a b d:Int) (hm:m<=6) (hp:∀i,Dd (p i)) (hl:m=0\/p (m-1)≠0) (ha:Dd a) (hb:Dd b) (hd:Dd d) (hdp:0<d):AF Tryz.prog 129 [Cj m p,WA a,WA b,WA d] (.tup [Cj (Gg (Ael p m a b d) m) (Ael p m a b d),.int 0]):=by
 cases m with
 |zero=>exact Aft (fG p a b d ha hb hd hdp) rfl (λ_ _ _ _ h=>h) λE v hv=>hv.nil_poly
 |succ k=>exact fH k p a b d ω hp (hl.resolve_left ω) ha hb hd hdp
abbrev ocN (l:List Int):Nat:=Gg (dC l) l.length
abbrev oc1 (l:List Int) (a b d:Int):Nat->Int:=Ael (dC l) (ocN l) a b d
theorem Ae7 {l:List Int} (h:∀i,Dd (l.getD i 0)) (hn:l.length<=6) {a b d:Int} (ha:Dd a) (hb:Dd b) (hd:Dd d) (i:Nat):Bd 500 (oc1 l a b d i):=by
 have:ocN l<=l.length:=Ps (dC l) l.length
 exact(gO h ha hb hd _ i).mono ω
structure Rr where
 num:Rw
 den:Rw
abbrev wA (r:Rr):AV:= .lit (.agg #[.bool r.num.neg,.string r.num.mag,.bool r.den.neg,.string r.den.mag])
abbrev Ki (x y:Int):AV:= .lit (.agg #[.bool (decide (x<0)),.string (Df x.natAbs),.bool (decide (y<0)),.string (Df y.natAbs)])
def Ad5 (r:Rr):Prop:=∃x y,Cb x/\Cb y/\0<y/\wA r=Ki x y
noncomputable def uD (r:Rr):Bool:=bP (Ad5 r)
theorem Abj {y:Int} (h:0<y):decide ((0:Int)<y.sign)=true:=decide_eq_true (by rw[Int.sign_eq_one_of_pos h];decide)
theorem uZ {y:Int} (h:¬0<y):decide ((0:Int)<y.sign)=false:=decide_eq_false λg=>by
 by_cases h0:y=0
 subst h0;exact absurd g δ
 rw[Int.sign_eq_neg_one_of_neg ω] at g;exact absurd g δ
theorem Mr (x y:Int) (hx:Cb x) (hy:Cb y) (hp:0<y):AF Tryz.prog 217 [Ki x y] (.bool true):=by
 have hz:=Abj hp
 refine As func217 rfl λB D0 hA0=>?_
 exact Ab 12 (Aw (Ij x y (by assumption) (by assumption)) (Ab 3 (Aw (Lo y (by assumption)) (Ab 6 (Fu (.bool (decide ((0:Int)<(y).sign))) (congrArg AV.bool hz))))))
theorem lK (x y:Int) (hx:Cb x) (hy:Cb y) (hp:¬0<y):AF Tryz.prog 217 [Ki x y] (.bool false):=by
 have hz:=uZ hp
 refine As func217 rfl λB D0 hA0=>?_
 exact Ab 12 (Aw (Ij x y (by assumption) (by assumption)) (Ab 3 (Aw (Lo y (by assumption)) (Ab 6 (Fu (.bool (decide ((0:Int)<(y).sign))) (congrArg AV.bool hz))))))
theorem lJ (r:Rr) (h:(bE r.num&&bE r.den)=false):AF Tryz.prog 217 [wA r] (.bool false):=by
 refine As func217 rfl λB D0 hA0=>?_
 exact Ab 12 (Aw (wV r.num r.den) (Ab 1 (Lj 8 (bE r.num&&bE r.den) false h (Ab 9 (Cy)))))
theorem AfT {r:Rr} {x y:Int} (h1:rwA r.num=WA x) (h2:rwA r.den=WA y):wA r=Ki x y:=by
 have e1:Value.agg #[.bool r.num.neg,.string r.num.mag]=Ak x:=AV.lit.inj h1
 have e2:Value.agg #[.bool r.den.neg,.string r.den.mag]=Ak y:=AV.lit.inj h2
 unfold Ak at e1 e2
 simp only[Value.agg.injEq,Array.mk.injEq,List.cons.injEq,Value.bool.injEq,Value.string.injEq,and_true] at e1 e2
 unfold wA Ki
 rw[e1.1,e1.2,e2.1,e2.2]
theorem Wj (r:Rr):AF Tryz.prog 217 [wA r] (.bool (uD r)):=by
 by_cases hr:Ad5 r
 have e:uD r=true:=cW hr
 rw[e]
 obtain⟨x,y,hx,hy,hp,e⟩:=hr
 rw[e]
 exact Mr x y hx hy hp
 have e:uD r=false:=Im hr
 rw[e]
 cases h:(bE r.num&&bE r.den) with
 |false=>exact lJ r h
 |true=>
  obtain⟨h1,h2⟩:=Bool.and_eq_true_iff.1 h
  obtain⟨x,hx,ex⟩:=AdF h1
  obtain⟨y,hy,ey⟩:=AdF h2
  have e2:=AfT ex ey
  rw[e2]
  exact lK x y hx hy λhp=>hr ⟨x,y,hx,hy,hp,e2⟩
theorem xK (a b:Rr):AF Tryz.prog 192 [wA a,wA b] (.bool (uD a&&uD b)):=by
 refine As func192 rfl λB D0 hA0=>?_
 refine Ab 10 (Aw (Wj a) (Ab 1 (vsb 7 (uD a) (λhx1=>?_) (λhx1=>?_))))
 ·
  exact Ab 1 (Aw (Wj b) (Ab 5 (Fu (.bool (uD b)) (congrArg AV.bool (by rw[hx1];rfl)))))
 ·
  exact Ab 7 (Fu (.bool false) (congrArg AV.bool (by rw[hx1];rfl)))
theorem xL (x y u v:Int) (hx:Cb x) (hy:Cb y) (hu:Cb u) (hv:Cb v) (hyp:0<y) (hvp:0<v):AF Tryz.prog 192 [Ki x y,Ki u v] (.bool true):=by
 refine As func192 rfl λB D0 hA0=>?_
 exact Ab 10 (Aw (Mr x y (by assumption) (by assumption) (by assumption)) (Ab 2 (Aw (Mr u v (by assumption) (by assumption) (by assumption)) (Ab 5 (Cy)))))
theorem fI (x y u v:Int) (hx:Cb x) (hy:Cb y) (hu:Cb u) (hv:Cb v):AF Tryz.prog 193 [Ki x y,Ki u v] (.tup [Em (!decide (decide (x<0)=decide (v<0))) (x.natAbs*v.natAbs),Em (!decide (decide (u<0)=decide (y<0))) (u.natAbs*y.natAbs),Em (!decide (decide (y<0)=decide (v<0))) (y.natAbs*v.natAbs)]):=by
 have d1:=hx.digits
 have d2:=hy.digits
 have d3:=hu.digits
 have d4:=hv.digits
 refine As func193 rfl λB D0 hA0=>?_
 exact Ab 10 (Fa [(2,_,.none),(5,_,.none),(6,_,.none),(9,_,.none),(12,_,.none),(13,_,.none),(16,_,.none),(19,_,.none),(20,_,.none)] [4,5,6] ⟨Cx (Ek x (by assumption)),Cx (Ek v (by assumption)),Cx (Rt (decide (x<0)) x.natAbs (decide (v<0)) v.natAbs ω ω),Cx (Ek u (by assumption)),Cx (Ek y (by assumption)),Cx (Rt (decide (u<0)) u.natAbs (decide (y<0)) y.natAbs ω ω),Cx (Ek y (by assumption)),Cx (Ek v (by assumption)),Cx (Rt (decide (y<0)) y.natAbs (decide (v<0)) v.natAbs ω ω),trivial⟩ (Ab 2 (Cy)))
def Oy (x y:Int):Int:=(Nat.gcd x.natAbs y.natAbs:Int)
theorem Aah {x y:Int} (h:0<y):0<Nat.gcd x.natAbs y.natAbs:=Nat.gcd_pos_of_pos_right _ ω
theorem Abh (x:Int) {g:Nat} (hg:0<g):Db (!decide (decide (x<0)=false)) (Ip (decide (x<0)) x.natAbs g)=x/(g:Int):=by
 have:=(Td x (g:Int) ω).1
 rwa [show decide ((g:Int)<0)=false from decide_eq_false ω,Int.natAbs_natCast] at this
theorem Abg {y:Int} (hy:0<y) {g:Nat} (hg:0<g):Db (!decide (false=false)) (Ip false y.natAbs g)=y/(g:Int):=by
 have:=(Td y (g:Int) ω).1
 rwa [show decide ((g:Int)<0)=false from decide_eq_false ω,show decide (y<0)=false from decide_eq_false ω,Int.natAbs_natCast] at this
abbrev Aa5 (x y:Int):Value:= .tuple #[.agg #[.bool (decide (x/Oy x y<0)),.string (Df (x/Oy x y).natAbs),.bool (decide (y/Oy x y<0)),.string (Df (y/Oy x y).natAbs)],.int .i64 0]
theorem lF (x y:Int) (hx:Cb x) (hy:Cb y) (hp:0<y):AF Tryz.prog 183 [Em (decide (x<0)) x.natAbs,Em false y.natAbs] (.lit (Aa5 x y)):=by
 have hd:=hx.digits
 have he:=hy.digits
 have hg:=Aah (x:=x) hp
 have h1:=iT x.natAbs y.natAbs
 have h2:=So (decide (x<0)) x.natAbs (Nat.gcd x.natAbs y.natAbs)
 have h3:=So false y.natAbs (Nat.gcd x.natAbs y.natAbs)
 have z1:Db (!decide ((decide (x<0))=false)) (Ip (decide (x<0)) x.natAbs (Nat.gcd x.natAbs y.natAbs))=x/Oy x y:=Abh x hg
 have z2:Db (!decide (false=false)) (Ip false y.natAbs (Nat.gcd x.natAbs y.natAbs))=y/Oy x y:=Abg hp hg
 have f1:Cb (x/Oy x y):=Nb hx
 have f2:Cb (y/Oy x y):=Nb hy
 have e1:decide ((Hi (Db (!decide ((decide (x<0))=false)) (Ip (decide (x<0)) x.natAbs (Nat.gcd x.natAbs y.natAbs))))=0)=true:=decide_eq_true (by rw[z1];exact Hj f1)
 have e2:decide ((Hi (Db (!decide (false=false)) (Ip false y.natAbs (Nat.gcd x.natAbs y.natAbs))))=0)=true:=decide_eq_true (by rw[z2];exact Hj f2)
 refine As func183 rfl λB D0 hA0=>?_
 exact Ab 9 (Fa [(6,_,.none)] [2,3,4,6] ⟨Cx (oK x.natAbs y.natAbs ω ω),trivial⟩ (Ab 5 (Aw (Rp (decide (x<0)) x.natAbs false (Nat.gcd x.natAbs y.natAbs) ω ω ω) (Ab 10 (Aw (Rp false y.natAbs false (Nat.gcd x.natAbs y.natAbs) ω ω ω) (Ab 9 (Aw (Eo (!decide ((decide (x<0))=false)) (Ip (decide (x<0)) x.natAbs (Nat.gcd x.natAbs y.natAbs)) ω) (Ab 11 (Aw (Eo (!decide (false=false)) (Ip false y.natAbs (Nat.gcd x.natAbs y.natAbs)) ω) (Ab 14 (Lj 43 (!decide (Hi (Db (!decide ((decide (x<0))=false)) (Ip (decide (x<0)) x.natAbs (Nat.gcd x.natAbs y.natAbs)))=0)) false (by rw[e1];rfl) (Ab 5 (Lj 46 (!decide (Hi (Db (!decide (false=false)) (Ip false y.natAbs (Nat.gcd x.natAbs y.natAbs)))=0)) false (by rw[e2];rfl) (Ab 13 (Fu (.lit (.tuple #[.agg #[.bool (decide (Fy (Db (!decide ((decide (x<0))=false)) (Ip (decide (x<0)) x.natAbs (Nat.gcd x.natAbs y.natAbs)))<0)),.string (Df (Fy (Db (!decide ((decide (x<0))=false)) (Ip (decide (x<0)) x.natAbs (Nat.gcd x.natAbs y.natAbs)))).natAbs),.bool (decide (Fy (Db (!decide (false=false)) (Ip false y.natAbs (Nat.gcd x.natAbs y.natAbs)))<0)),.string (Df (Fy (Db (!decide (false=false)) (Ip false y.natAbs (Nat.gcd x.natAbs y.natAbs)))).natAbs)],.int .i64 0])) (by rw[z1,z2,Es f1,Es f2]))))))))))))))))
theorem lG (x y:Int) (hx:Cb x) (hy:Cb y) (hp:0<y):AF Tryz.prog 183 [Em (decide (x<0)) x.natAbs,Em (decide (y<0)) y.natAbs] (.lit (Aa5 x y)):=by
 have h:=lF x y hx hy hp
 rw[show decide (y<0)=false from decide_eq_false ω]
 exact h
theorem Qv (x y:Int) (hx:Cb x) (hy:Cb y) (hp:0<y):AF Tryz.prog 134 [WA x,WA y] (.lit (Aa5 x y)):=by
 have hb:((Df y.natAbs).toList==(⟨#[]⟩:ByteArray).toList)=false:=lU ω
 refine As func134 rfl λB D0 hA0=>?_
 refine Ab 13 (Aw (Ij x y (by assumption) (by assumption)) (Ab 11 (Cn (.bool ((Df y.natAbs).toList==(⟨#[]⟩:ByteArray).toList)) (.bool false) ?_ (congrArg Value.bool hb))))
 exact Ab 6 (Fa [(1,_,.none),(3,_,.none),(4,_,.none)] [4,5] ⟨Cx (Ek x (by assumption)),Cx (Ek y (by assumption)),Cx (lG x y hx hy hp),trivial⟩ (Ab 2 (Cy)))
theorem Adc (b:Bool) (n:Nat):Db (!b) n= -Db b n:=by unfold Db;cases b<;>simp
theorem xQ (x y u v:Int) (hx:Cb x) (hy:Cb y) (hu:Cb u) (hv:Cb v) (hyp:0<y) (hvp:0<v):AF Tryz.prog 141 [Ki x y,Ki u v] (.lit (.tuple #[.int .i64 (x*v-u*y).sign,.int .i64 0])):=by
 have d1:=hx.digits
 have d2:=hy.digits
 have d3:=hu.digits
 have d4:=hv.digits
 have p1:=Vo x.natAbs v.natAbs
 have p2:=Vo u.natAbs y.natAbs
 have p5:=Xm (!decide (decide (x<0)=decide (v<0))) (x.natAbs*v.natAbs) (!(!decide (decide (u<0)=decide (y<0)))) (u.natAbs*y.natAbs)
 have z:Db (Sa (!decide (decide (x<0)=decide (v<0))) (x.natAbs*v.natAbs) (!(!decide (decide (u<0)=decide (y<0)))) (u.natAbs*y.natAbs)) (Qh (!decide (decide (x<0)=decide (v<0))) (x.natAbs*v.natAbs) (!(!decide (decide (u<0)=decide (y<0)))) (u.natAbs*y.natAbs))=x*v-u*y:=by rw[eP,Yb,Adc,Yb];omega
 refine As func141 rfl λB D0 hA0=>?_
 exact Ab 13 (Aw (xL x y u v hx hy hu hv hyp hvp) (Ab 10 (Aw (fI x y u v hx hy hu hv) (Ab 13 (Fa [(2,_,.none),(3,_,.none),(4,_,.none)] [4,5] ⟨Cx (cJ (!decide (decide (u<0)=decide (y<0))) (u.natAbs*y.natAbs)),Cx (Wd (!decide (decide (x<0)=decide (v<0))) (x.natAbs*v.natAbs) (!(!decide (decide (u<0)=decide (y<0)))) (u.natAbs*y.natAbs) ω ω),Cx (Tl (Sa (!decide (decide (x<0)=decide (v<0))) (x.natAbs*v.natAbs) (!(!decide (decide (u<0)=decide (y<0)))) (u.natAbs*y.natAbs)) (Qh (!decide (decide (x<0)=decide (v<0))) (x.natAbs*v.natAbs) (!(!decide (decide (u<0)=decide (y<0)))) (u.natAbs*y.natAbs)) ω),trivial⟩ (Ab 2 (Fu (.lit (.tuple #[.int .i64 ((Db (Sa (!decide (decide (x<0)=decide (v<0))) (x.natAbs*v.natAbs) (!(!decide (decide (u<0)=decide (y<0)))) (u.natAbs*y.natAbs)) (Qh (!decide (decide (x<0)=decide (v<0))) (x.natAbs*v.natAbs) (!(!decide (decide (u<0)=decide (y<0)))) (u.natAbs*y.natAbs))).sign),.int .i64 0])) (by rw[z]))))))))
theorem lH (x y:Int) (hx:Cb x) (hy:Cb y) (hp:0<y):AF Tryz.prog 184 [Ki x y] (.lit (.tuple #[Ak (x/y),.int .i64 0])):=by
 have hd:=hx.digits
 have he:=hy.digits
 have hm0:0<y.natAbs:=by omega
 have h1:=So (decide (x<0)) x.natAbs y.natAbs
 have z:=(Td x y ω).1
 have f1:Cb (x/y):=Nb hx
 refine As func184 rfl λB D0 hA0=>?_
 exact Ab 11 (Aw (Mr x y hx hy hp) (Ab 7 (Fa [(2,_,.none),(5,_,.none),(6,_,.none)] [2,4] ⟨Cx (Ek x (by assumption)),Cx (Ek y (by assumption)),Cx (Rp (decide (x<0)) x.natAbs (decide (y<0)) y.natAbs ω ω ω),trivial⟩ (Ab 4 (Aw (Eo (!decide ((decide (x<0))=(decide (y<0)))) (Ip (decide (x<0)) x.natAbs y.natAbs) ω) (Ab 7 (Fu (.lit (.tuple #[Ak (Fy (Db (!decide ((decide (x<0))=(decide (y<0)))) (Ip (decide (x<0)) x.natAbs y.natAbs))),.int .i64 (Hi (Db (!decide ((decide (x<0))=(decide (y<0)))) (Ip (decide (x<0)) x.natAbs y.natAbs)))])) (by rw[z,Es f1,Hj f1]))))))))
theorem Ade (x:Int) (k:Nat):Db (decide (x<0)) (x.natAbs*2^k)=x*((2^k:Nat):Int):=by
 have h:=Hu x
 unfold Db at h ⊢
 by_cases hx:x<0
 rw[if_pos (by simpa using hx)] at h ⊢
 rw[Int.natCast_mul,<-Int.neg_mul,h]
 rw[if_neg (by simpa using hx)] at h ⊢
 rw[Int.natCast_mul,h]
theorem Wk (x:Int) (k:Nat) (hx:Cb x) (hk:k<=60000) (hf:Cb (x*((2^k:Nat):Int))):AF Tryz.prog 132 [WA x,.int (k:Int)] (.lit (.tuple #[Ak (x*((2^k:Nat):Int)),.int .i64 0])):=by
 have hd:=hx.digits
 have h1:=Ac2 x.natAbs k
 refine As func132 rfl λB D0 hA0=>?_
 exact Ab 11 (Aw (Dj x (by assumption)) (Ab 12 (Lj 15 (decide ((k:Int)< -65536)) false (decide_eq_false ω) (Ab 5 (Lj 18 (decide ((65536:Int)<(k:Int))) false (decide_eq_false ω) (Ab 6 (Aw (Ek x (by assumption)) (Ab 11 (Lj 23 (decide ((0:Int)<=(k:Int))) true (decide_eq_true ω) (Ab 2 (Fa [(5,_,.none),(7,_,.none)] [4,5] ⟨Cx (xJ x.natAbs k (k:Int) rfl ω ω),Cx (Eo (decide (x<0)) (x.natAbs*2^k) ω),trivial⟩ (Ab 3 (Fu (.lit (.tuple #[Ak (Fy (Db (decide (x<0)) (x.natAbs*2^k))),.int .i64 (Hi (Db (decide (x<0)) (x.natAbs*2^k)))])) (by rw[Ade,Es hf,Hj hf]))))))))))))))
def Hv (n:Nat):Nat->Int
 |0=>1
 |i+1=>(Hv n i*((n:Int)-i)).tdiv (i+1)
theorem Vy:∀n,n<25->∀i,i<26->0<=Hv n i/\Hv n i<=3000000:=by decide+kernel
theorem Ab2 {n i:Nat} {w:Int} (hn:n<=24) (hi:i<n) (hw:w=Hv n i):w64 (Int.tdiv (w64 (w*((n-i:Nat):Int))) ((i+1:Nat):Int))=Hv n (i+1):=by
 subst hw
 have h1:=Vy n ω i ω
 have h2:=Vy n ω (i+1) ω
 have e1:((n-i:Nat):Int)=(n:Int)-i:=by omega
 have e2:((i+1:Nat):Int)=(i:Int)+1:=by omega
 have h3:0<=Hv n i*((n:Int)-i):=Int.mul_nonneg h1.1 ω
 have h4:Hv n i*((n:Int)-i)<=3000000*24:=Int.mul_le_mul h1.2 ω ω δ
 have h5:Hv n (i+1)=(Hv n i*((n:Int)-i)).tdiv (i+1):=rfl
 rw[e1,e2,show w64 (Hv n i*((n:Int)-i))=_ from IntWalk.i64_in _ ω,<-h5]
 exact IntWalk.i64_in _ ω
theorem Afd (n k:Nat) (hn:n<=24) (hk:k<=n):∃r,r=AV.int (Hv n k)/\AF Tryz.prog 214 [.int (n:Int),.int (k:Int)] r:=by
 refine Di func214 rfl ?_
 refine Au 18 (tlp [0,5,7,8] (λm s=>∃(i:Nat) (w:Int),m=k-i/\(w=Hv n i/\i<=k)/\s=⟨[(0,.int (n:Int)),(5,.int w),(7,.int (k:Int)),(8,.int (i:Int))],[],0,21⟩) (k-0) ⟨0,1,rfl,⟨rfl,Nat.zero_le _⟩,κ⟩ ?_)
 rintro _ _ ⟨i,w,rfl,hF,rfl⟩ hJ1
 refine Au 6 (jZ 9 ((i:Int)<(k:Int)) (λhx1 hx1d=>?_) (λhx1 hx1d=>?_))
 exact Au 15 (gs (Ig ((n:Int)-(i:Int)) ((n-i:Nat):Int) ·) (Au 2 (gs (Ig ((i:Int)+1) ((i+1:Nat):Int) ·) (gs (AgU (w64 (w*((n-i:Nat):Int))) ((i+1:Nat):Int) ω ·) (Au 5 (gs (Ig ((i:Int)+1) ((i+1:Nat):Int) ·) (Au 2 (trd [0,5,7,8] (hJ1 _ _ (by omega:k-(i+1)<k-i) ⟨i+1,(w64 (Int.tdiv (w64 (w*((n-i:Nat):Int))) ((i+1:Nat):Int))),rfl,⟨Ab2 hn ω hF.1,ω⟩,rfl⟩)))))))))
 exact Au 13 (Mj (r:=AV.int w) (by rw[hF.1,show i=k by omega]))
theorem xN (s w k:Int) (hs:Cb s) (hw:Cb w) (hk:Dd k) (h1:Cb (w*k)) (h2:Cb (s+w*k)):AF Tryz.prog 213 [WA s,WA w,.int k] (WA (s+w*k)):=by
 refine As func213 rfl λB D0 hA0=>?_
 exact Ab 8 (Fa [(2,_,.none),(3,_,.none)] [3,4,6] ⟨Cx (Ga k hk.1 hk.2),Cx (Vk w k hw (Ez hk.1 hk.2) h1),trivial⟩ (Ab 5 (Aw (cO s (w*k) hs h1 h2) (Ab 13 (Cy)))))
theorem fO (n k:Nat) (hn:n<=24) (hk:k<=n):AF Tryz.prog 214 [.int (n:Int),.int (k:Int)] (.int (Hv n k)):=by
 obtain⟨r,rfl,h⟩:=Afd n k hn hk
 exact h
theorem Rn {n k:Nat} (hn:n<=24) (hk:k<=n):Dd (Hv n k):=by
 have:=Vy n ω k ω
 exact⟨ω,ω⟩
theorem qS {n k:Nat} (hn:n<=24) (hk:k<=n):0<Hv n k:=by
 have:∀n,n<25->∀k,k<n+1->0<Hv n k:=by decide+kernel
 exact this n ω k ω
def ofS (p:Nat->Int) (d j:Nat):Nat->Int
 |0=>0
 |i+1=>ofS p d j i+p i*Hv (d-i) (j-i)
def ofC (p:Nat->Int) (m d j:Nat):Int:=ofS p d j (min (j+1) m)
theorem dY {p:Nat->Int} {d j:Nat} (hp:∀i,Bd 1000 (p i)) (hd:d<=24) (hj:j<=d):∀i,i<=j+1->Bd (1063+i) (ofS p d j i)
 |0,_=>Bd.zero _
 |i+1,h=>by
  have w:=Rn (n:=d-i) (k:=j-i) ω ω
  exact(dY hp hd hj i ω).add (((hp i).mul (Bd.int w.1 w.2)).mono ω)
def Nq (g:Nat->Int) (j:Nat) (z:Int):Nat->Int:=λk=>if k=j then z else g k
theorem Adx (g:Nat->Int) (j:Nat) (y z:Int) (k:Nat):(if k=j then WA z else WA (Nq g j y k))=WA (Nq g j z k):=by unfold Nq;by_cases h:k=j<;>simp[h]
theorem Ady (g:Nat->Int) (j:Nat) (k:Nat) (h:g j=0):WA (g k)=WA (Nq g j 0 k):=by unfold Nq;by_cases e:k=j<;>simp[e,h]
def OfJ (p:Nat->Int) (m d j:Nat) (g:Nat->Int):Prop:=∀q,g q=if q<j then ofC p m d q else 0
theorem OfJ.step {p:Nat->Int} {m d j:Nat} {g:Nat->Int} {z:Int} (h:OfJ p m d j g) (hz:z=ofC p m d j):OfJ p m d (j+1) (Nq g j z):=λq=>by
 unfold Nq
 by_cases e:q=j
 subst e;rw[if_pos rfl,if_pos (Nat.lt_succ_self _)];exact hz
 rw[if_neg e,h q]
 by_cases h2:q<j
 rw[if_pos h2,if_pos ω]
 rw[if_neg h2,if_neg ω]
theorem OfJ.zero {p:Nat->Int} {m d j:Nat} {g:Nat->Int} (h:OfJ p m d j g):g j=0:=by rw[h j,if_neg ω]
theorem AfG (p:Nat->Int) (m d:Nat):OfJ p m d 0 (λ_=>0):=λq=>(if_neg (Nat.not_lt_zero q)).symm
theorem AeZ (g:Nat->Int) (j:Nat) (z:Int):Nq g j z j=z:=if_pos rfl
theorem xO (g:Nat->Int) (p:Nat->Int) {d j i:Nat} {z:Int} (hp:∀i,Bd 1000 (p i)) (hd:d<=24) (hj:j<=d) (hi:i<=j) (hz:z=ofS p d j i):AF Tryz.prog 213 [WA (Nq g j z j),WA (p i),.int (Hv (d-i) (j-i))] (WA (z+p i*Hv (d-i) (j-i))):=by
 rw[AeZ]
 have w:=Rn (n:=d-i) (k:=j-i) ω ω
 have b1:=dY hp hd hj i ω
 have b2:=dY hp hd hj (i+1) ω
 have e:ofS p d j (i+1)=ofS p d j i+p i*Hv (d-i) (j-i):=rfl
 rw[e] at b2
 subst hz
 exact xN _ _ _ (b1.fit ω) ((hp i).fit ω) w (((hp i).mul (Bd.int w.1 w.2)).fit ω) (b2.fit ω)
theorem AgH (L:Nat) (p:Nat->Int) (d:Nat) (hm:L<=25) (hp:∀i,Bd 1000 (p i)) (hd:d<=24):∃r,(∃g,OfJ p L d (d+1) g/\r= .sl 2 (d+1) λi=>WA (g i))/\AF Tryz.prog 178 [Cj L p,.int (d:Int)] r:=by
 refine Di func178 rfl ?_
 refine Au 8 (gs (Ig ((d:Int)+1) ((d+1:Nat):Int) ·) (gs (Bb (.osl 0 2 (d+1)) (.new 0 (.vec 174 2 (d+1) (λ_=> .lit (Ak 0)))) (Qp 269 (.tmp 9) (.tmp 9) κ underlying269 2 24 (.agg #[.bool false,.string ⟨#[]⟩]) κ κ δ ((d+1:Nat):Int) (d+1) ω κ κ ω ω ω 0 (.lit (Ak 0)) κ) ·) (Au 12 (gs (vvx 0 174 2 (d+1) (λ_=> .lit (Ak 0)) (λxi=>WA ((λ_=>0) xi)) (λx9 hx9=>rfl) ·) (tlp [0,1,5,12,13] (λm s=>∃(j:Nat) (g:Nat->Int),m=d+1-j/\(OfJ p L d j g/\j<=d+1)/\s=⟨[(0,Cj L p),(1,.int (d:Int)),(5,.osl 0 2 (d+1)),(12,.int ((d+1:Nat):Int)),(13,.int (j:Int))],[(0,.vec 174 2 (d+1) (λxi=>WA (g xi)))],1,48⟩) (d+1-0) ⟨0,(λ_=>0),rfl,⟨AfG p L d,Nat.zero_le _⟩,κ⟩ ?_)))))
 rintro _ _ ⟨j,g,rfl,hF,rfl⟩ hJ1
 have hO:=hF
 refine Au 6 (jZ 14 ((j:Int)<((d+1:Nat):Int)) (λhx1 hx1d=>?_) (λhx1 hx1d=>?_))
 refine Au 17 (gs (vvx 0 174 2 (d+1) (λxi=>WA (g xi)) (λxi=>WA (Nq g j 0 xi)) (λx9 hx9=>Ady g j x9 hF.1.zero) ·) (tlp [0,1,5,6,7,12,13] (λm s=>∃(i:Nat) (z:Int),m=j+1-i/\(z=ofS p d j i/\i<=j+1/\i<=L)/\s=⟨[(0,Cj L p),(1,.int (d:Int)),(5,.osl 0 2 (d+1)),(6,.int (j:Int)),(7,.int (i:Int)),(12,.int ((d+1:Nat):Int)),(13,.int (j:Int))],[(0,.vec 174 2 (d+1) (λxi=>WA (Nq g j z xi)))],1,48⟩) (j+1-0) ⟨0,0,rfl,⟨rfl,Nat.zero_le _,Nat.zero_le _⟩,κ⟩ ?_))
 rintro _ _ ⟨i,z,rfl,hF,rfl⟩ hJ2
 refine Au 7 (jZ 19 ((i:Int)<=(j:Int)) (λhx2 hx2d=>?_) (λhx2 hx2d=>?_))
 refine Au 7 (jZ 24 ((i:Int)<(L:Int)) (λhx3 hx3d=>?_) (λhx3 hx3d=>?_))
 exact Au 5 (gs (Fa [(4,Eb (.osl 0 2 (d+1)) j,.none),(5,.lit (Ak (Nq g j z j)),(.read 0)),(8,Eb (Cj L p) i,.none),(12,.int ((d-i:Nat):Int),.none),(15,.int ((j-i:Nat):Int),.none),(16,_,.none),(17,_,.none),(18,Eb (.osl 0 2 (d+1)) j,.none),(19,.lit Go.undef,(.set 0 (.vec 174 2 (d+1) (λxi=>if xi=j then .lit (Ak (z+p i*Hv (d-i) (j-i))) else (λxi=>WA (Nq g j z xi)) xi))))] [0,1,5,6,7,12,13] ⟨Nf j (d+1),Bc (Ho 174 (.tmp 31) κ isAgg174 2 sizeOf174 0 j κ 174 (d+1) (λxi=>WA (Nq g j z xi)) κ ω),Nf i L,Bc (Cg (v:= .int .i64 (IntKind.wrap .i64 ((d:Int)-(i:Int)))) (v':= .int .i64 ((d-i:Nat):Int)) _ κ rfl κ (λw=>by kernel_rfl) (congrArg (Value.int .i64) ((IntWalk.i64_in _ ω).trans ω))),Bc (Cg (v:= .int .i64 (IntKind.wrap .i64 ((j:Int)-(i:Int)))) (v':= .int .i64 ((j-i:Nat):Int)) _ κ rfl κ (λw=>by kernel_rfl) (congrArg (Value.int .i64) ((IntWalk.i64_in _ ω).trans ω))),Cx (fO (d-i) (j-i) ω ω),Cx (xO g p (d:=d) (j:=j) (i:=i) (z:=z) hp hd ω ω hF.1),Nf j (d+1),Bc (Gr 174 (.tmp 45) (.tmp 44) κ 2 sizeOf174 0 j κ 174 (d+1) (λxi=>WA (Nq g j z xi)) κ ω κ κ κ (.lit (Ak (z+p i*Hv (d-i) (j-i)))) κ),trivial⟩ ·) (Au 4 (gs (Ig ((i:Int)+1) ((i+1:Nat):Int) ·) (Au 2 (gs (vvx 0 174 2 (d+1) (λxi=>if xi=j then .lit (Ak (z+p i*Hv (d-i) (j-i))) else (λxi=>WA (Nq g j z xi)) xi) (λxi=>WA (Nq g j (z+p i*Hv (d-i) (j-i)) xi)) (λx9 hx9=>Adx g j z (z+p i*Hv (d-i) (j-i)) x9) ·) (trd [0,1,5,6,7,12,13] (hJ2 _ _ (by omega:j+1-(i+1)<j+1-i) ⟨i+1,z+p i*Hv (d-i) (j-i),rfl,⟨by rw[hF.1];rfl,ω,ω⟩,rfl⟩)))))))
 exact Au 8 (gs (Ig ((j:Int)+1) ((j+1:Nat):Int) ·) (Au 2 (trd [0,1,5,12,13] (hJ1 _ _ (by omega:d+1-(j+1)<d+1-j) ⟨j+1,Nq g j z,rfl,⟨hO.1.step (z:=z) (by rw[hF.1];unfold ofC;congr 1;omega),ω⟩,rfl⟩))))
 exact Au 15 (gs (Ig ((j:Int)+1) ((j+1:Nat):Int) ·) (Au 2 (trd [0,1,5,12,13] (hJ1 _ _ (by omega:d+1-(j+1)<d+1-j) ⟨j+1,Nq g j z,rfl,⟨hO.1.step (z:=z) (by rw[hF.1];unfold ofC;congr 1;omega),ω⟩,rfl⟩))))
 exact Au 12 (gs (Ab0 0 [4] 174 2 (d+1) (λxi=>WA (g xi)) (Ro λ_ _=>rfl) ·) (Au 1 (Mj (r:= .sl 2 (d+1) λi=>WA (g i)) ⟨g,by rw[show d+1=j by omega];exact hF.1,rfl⟩)))
def Ac4 (x y:Int):Int×Int:=(x/Oy x y,y/Oy x y)
def AeC (b r:Int×Int):Int:=(r.1*b.2-b.1*r.2).sign
def Ew (c:Nat->Int) (n j:Nat):Int×Int:=Ac4 (c j) (Hv (n-1) j)
def Ll (g:Bool) (c:Nat->Int) (n:Nat):Nat->Int×Int
 |0=>(0,0)
 |j+1=>if j=0 then Ew c n j else if decide (AeC (Ll g c n j) (Ew c n j)<0)=g then Ll g c n j else if AeC (Ll g c n j) (Ew c n j)=0 then Ll g c n j else Ew c n j
def Sv (g:Bool) (c:Nat->Int) (n j:Nat):Int:=if j=0 then 0 else AeC (Ll g c n j) (Ew c n j)
def qT:Rr:=⟨⟨false,⟨#[]⟩⟩,⟨false,⟨#[]⟩⟩⟩
def aE (g:Bool) (c:Nat->Int) (n j:Nat) (b:Rr):Prop:=(j=0/\b=qT)\/(0<j/\wA b=Ki (Ll g c n j).1 (Ll g c n j).2)
theorem gC {g:Bool} {c:Nat->Int} {n j:Nat} (h:Ll g c n (j+1)=Ew c n j):aE g c n (j+1) ⟨⟨decide ((Ew c n j).1<0),Df (Ew c n j).1.natAbs⟩,⟨decide ((Ew c n j).2<0),Df (Ew c n j).2.natAbs⟩⟩:= .inr ⟨Nat.succ_pos _,by rw[h]⟩
theorem gE {g:Bool} {c:Nat->Int} {n j:Nat} {b:Rr} (hb:aE g c n j b) (hj:¬j=0) (h:Ll g c n (j+1)=Ll g c n j):aE g c n (j+1) b:=by
 rcases hb with⟨h0,_⟩|⟨_,h2⟩
 exact absurd h0 hj
 exact .inr ⟨Nat.succ_pos _,by rw[h];exact h2⟩
theorem Ae2 {g:Bool} {c:Nat->Int} {n j:Nat} (h:j=0):Ll g c n (j+1)=Ew c n j:=by unfold Ll;rw[if_pos h]
theorem AgB {g:Bool} {c:Nat->Int} {n j:Nat} (h:¬j=0) (ha:decide (Sv g c n j<0)=g):Ll g c n (j+1)=Ll g c n j:=by
 unfold Sv at ha;rw[if_neg h] at ha
 rw[Ll,if_neg h,if_pos ha]
theorem AgC {g:Bool} {c:Nat->Int} {n j:Nat} (h:¬j=0) (ha:Sv g c n j=0):Ll g c n (j+1)=Ll g c n j:=by
 unfold Sv at ha;rw[if_neg h] at ha
 rw[Ll,if_neg h,if_pos ha,ite_self]
theorem AgD {g:Bool} {c:Nat->Int} {n j:Nat} (h:¬j=0) (ha:¬decide (Sv g c n j<0)=g) (hb:¬Sv g c n j=0):Ll g c n (j+1)=Ew c n j:=by
 unfold Sv at ha hb;rw[if_neg h] at ha hb
 rw[Ll,if_neg h,if_neg ha,if_neg hb]
theorem Rh {x y:Int} (hx:Cb x) (hy:Cb y) (hp:0<y):Cb (Ac4 x y).1/\Cb (Ac4 x y).2/\0<(Ac4 x y).2:=by
 have hd:Oy x y∣y:=by
  have h1:(Nat.gcd x.natAbs y.natAbs)∣y.natAbs:=Nat.gcd_dvd_right _ _
  exact Int.ofNat_dvd_left.2 h1
 exact⟨Nb hx,Nb hy,Int.ediv_pos_of_pos_of_dvd hp (Int.natCast_nonneg _) hd⟩
theorem qO {c:Nat->Int} {n j:Nat} (hc:∀q,Cb (c q)) (hn:n<=25) (hj:j<n):Cb (Ew c n j).1/\Cb (Ew c n j).2/\0<(Ew c n j).2:=by
 have w:=Rn (n:=n-1) (k:=j) ω ω
 exact Rh (hc j) (Ez w.1 w.2) (qS ω ω)
theorem pQ {g:Bool} {c:Nat->Int} {n:Nat} (hc:∀q,Cb (c q)) (hn:n<=25):∀j,0<j->j<=n->Cb (Ll g c n j).1/\Cb (Ll g c n j).2/\0<(Ll g c n j).2
 |0,h,_=>absurd h (Nat.lt_irrefl 0)
 |j+1,_,h=>by
  have ht:=qO hc hn (j:=j) ω
  by_cases h0:j=0
  rw[Ae2 h0];exact ht
  have ih:=pQ (g:=g) hc hn j ω ω
  rw[Ll,if_neg h0]
  split
  exact ih
  split
  exact ih
  exact ht
theorem uQ (x y:Int) (b:Rr) (hb:uD b=false):∃r,r=AV.lit (.tuple #[.int .i64 0,.int .i64 2])/\AF Tryz.prog 141 [Ki x y,wA b] r:=by
 have hq:(uD ⟨⟨decide (x<0),Df x.natAbs⟩,⟨decide (y<0),Df y.natAbs⟩⟩&&uD b)=false:=by rw[hb,Bool.and_false]
 refine Di func141 rfl ?_
 exact Au 13 (gs (Aw (xK ⟨⟨decide (x<0),Df x.natAbs⟩,⟨decide (y<0),Df y.natAbs⟩⟩ b) ·) (Au 3 (tkn 12 (!(uD ⟨⟨decide (x<0),Df x.natAbs⟩,⟨decide (y<0),Df y.natAbs⟩⟩&&uD b)) true (by rw[hq];rfl) (Au 9 (Mj (r:= .lit (.tuple #[.int .i64 0,.int .i64 2])) rfl)))))
theorem AaH:uD qT=false:=Im λ⟨x,y,_,_,hp,e⟩=>by
 have h:=AV.lit.inj e
 unfold qT at h
 simp only[Value.agg.injEq,Array.mk.injEq,List.cons.injEq,Value.bool.injEq,Value.string.injEq,and_true] at h
 have h3:=lU (n:=y.natAbs) ω
 rw[<-h.2.2.2] at h3
 exact absurd h3 (by simp)
theorem AbJ (g:Bool) (c:Nat->Int) (n j:Nat) (b:Rr) (hc:∀q,Cb (c q)) (hn:n<=25) (hj:j<n) (hb:aE g c n j b):AF Tryz.prog 141 [Ki (Ew c n j).1 (Ew c n j).2,wA b] (.lit (.tuple #[.int .i64 (Sv g c n j),.int .i64 (if j=0 then 2 else 0)])):=by
 have ht:=qO hc hn hj
 rcases hb with⟨h0,rfl⟩|⟨h0,h1⟩
 obtain⟨r,rfl,h⟩:=uQ (Ew c n j).1 (Ew c n j).2 qT AaH
 unfold Sv
 rw[if_pos h0,if_pos h0]
 exact h
 have hl:=pQ (g:=g) hc hn j h0 ω
 unfold Sv
 rw[h1,if_neg ω,if_neg ω]
 exact xQ _ _ _ _ ht.1 ht.2.1 hl.1 hl.2.1 ht.2.2 hl.2.2
theorem Acx (n:Nat) (c:Nat->Int) (g:Bool) (hn:n<=25) (hc:∀q,Cb (c q)):∃r,(∃b,aE g c n n b/\r=wA b)/\AF Tryz.prog 180 [.slc 1 1 λ_=>Cj n c,.bool g] r:=by
 refine Di func180 rfl ?_
 refine Au 19 (gs (Qk 1 ·) (Au 14 (gs (Ob 0 1 ·) (Au 13 (tlp [1,4,5,6,7,14,15,16,21,22,23] (λm s=>∃(j:Nat) (b:Rr),m=n-j/\(aE g c n j b/\j<=n)/\s=⟨[(1,.bool g),(4,.ptr 0 0),(5,.ptr 1 0),(6,.int 0),(7,Cj n c),(14,.slc 1 1 (λi0=>Cj n c)),(15,.int 1),(16,.int 0),(21,Cj n c),(22,.int (n:Int)),(23,.int (j:Int))],[(0,.box 218 [.bool false,.lit (.string ⟨#[]⟩),.bool false,.lit (.string ⟨#[]⟩)]),(1,.box 218 [.bool b.num.neg,.lit (.string b.num.mag),.bool b.den.neg,.lit (.string b.den.mag)])],2,63⟩) (n-0) ⟨0,⟨⟨false,⟨#[]⟩⟩,⟨false,⟨#[]⟩⟩⟩,rfl,⟨.inl ⟨rfl,rfl⟩,Nat.zero_le _⟩,κ⟩ ?_)))))
 rintro _ _ ⟨j,b,rfl,hF,rfl⟩ hJ1
 refine Au 6 (jZ 24 ((j:Int)<(n:Int)) (λhx1 hx1d=>?_) (λhx1 hx1d=>?_))
 refine Au 8 (gs (Ob j n ·) (Au 7 (gs (Fa [(3,.int ((n-1:Nat):Int),.none),(5,_,.none),(6,_,.none),(7,_,.none)] [1,4,5,6,7,8,10,14,15,16,21,22,23] ⟨Bc (Cg (v:= .int .i64 (IntKind.wrap .i64 ((n:Int)-1))) (v':= .int .i64 ((n-1:Nat):Int)) _ κ rfl κ (λw=>by kernel_rfl) (congrArg (Value.int .i64) ((IntWalk.i64_in _ ω).trans ω))),Cx (fO (n-1) j ω ω),Cx (Ga (Hv (n-1) j) (Rn ω ω).1 (Rn ω ω).2),Cx (Qv (c j) (Hv (n-1) j) (hc j) (Ez (Rn ω ω).1 (Rn ω ω).2) (qS ω ω)),trivial⟩ ·) (Au 5 (gs (Aw (AbJ g c n j b hc hn ω hF.1) ·) (Au 11 (gs (Ig ((0:Int)+(j:Int)) ((0+j:Nat):Int) ·) (Au 2 (jZ 49 (((0+j:Nat):Int)=0) (λhx2 hx2d=>?_) (λhx2 hx2d=>?_))))))))))
 exact Au 19 (gs (Ig ((j:Int)+1) ((j+1:Nat):Int) ·) (Au 2 (Ads [1,4,5,6,7,14,15,16,21,22,23] [(0,0),(1,1)] 2 [] trivial (hJ1 _ _ (by omega:n-(j+1)<n-j) ⟨j+1,⟨⟨decide ((Ew c n j).1<0),Df ((Ew c n j).1).natAbs⟩,⟨decide ((Ew c n j).2<0),Df ((Ew c n j).2).natAbs⟩⟩,rfl,⟨gC (Ae2 ω),ω⟩,rfl⟩))))
 refine Au 3 (gs (Cn (.bool (!decide (decide ((Sv g c n j)<0)=g))) (.bool (!decide (decide ((Sv g c n j)<0)=g))) ·) (Au 1 (AeW 54 (decide ((Sv g c n j)<0)=g) (λhx3 hx3d=>?_) (λhx3 hx3d=>?_))))
 exact Au 11 (gs (Ig ((j:Int)+1) ((j+1:Nat):Int) ·) (Au 2 (Ads [1,4,5,6,7,14,15,16,21,22,23] [(0,0),(1,1)] 2 [] trivial (hJ1 _ _ (by omega:n-(j+1)<n-j) ⟨j+1,b,rfl,⟨gE hF.1 ω (AgB ω hx3d),ω⟩,rfl⟩))))
 refine Au 6 (AeW 58 ((Sv g c n j)=0) (λhx4 hx4d=>?_) (λhx4 hx4d=>?_))
 exact Au 5 (gs (Ig ((j:Int)+1) ((j+1:Nat):Int) ·) (Au 2 (Ads [1,4,5,6,7,14,15,16,21,22,23] [(0,0),(1,1)] 2 [] trivial (hJ1 _ _ (by omega:n-(j+1)<n-j) ⟨j+1,b,rfl,⟨gE hF.1 ω (AgC ω hx4d),ω⟩,rfl⟩))))
 exact Au 8 (gs (Ig ((j:Int)+1) ((j+1:Nat):Int) ·) (Au 2 (Ads [1,4,5,6,7,14,15,16,21,22,23] [(0,0),(1,1)] 2 [] trivial (hJ1 _ _ (by omega:n-(j+1)<n-j) ⟨j+1,⟨⟨decide ((Ew c n j).1<0),Df ((Ew c n j).1).natAbs⟩,⟨decide ((Ew c n j).2<0),Df ((Ew c n j).2).natAbs⟩⟩,rfl,⟨gC (AgD ω hx3d hx4d),ω⟩,rfl⟩))))
 exact Au 31 (Mj (r:=wA b) ⟨b,(show j=n by omega)▸hF.1,rfl⟩)
def ofZ (p:Nat->Int) (L d:Nat):Nat->Int:=λq=>if q<d+1 then ofC p L d q else 0
theorem AdR (L:Nat) (p:Nat->Int) (d:Nat) (hm:L<=25) (hp:∀i,Bd 1000 (p i)) (hd:d<=24):AF Tryz.prog 178 [Cj L p,.int (d:Int)] (Cj (d+1) (ofZ p L d)):=by
 obtain⟨r,⟨g,h1,rfl⟩,h⟩:=AgH L p d hm hp hd
 have e:g=ofZ p L d:=funext h1
 rw[e] at h
 exact h
theorem Ae9 {p:Nat->Int} {L d:Nat} (hp:∀i,Bd 1000 (p i)) (hd:d<=24) (q:Nat):Bd 1100 (ofZ p L d q):=by
 unfold ofZ
 split
 exact(dY hp hd ω _ (Nat.min_le_left _ _)).mono (by have:=Nat.min_le_left (q+1) L;omega)
 exact Bd.zero _
theorem Zz (n:Nat) (c:Nat->Int) (g:Bool) (hn:n<=25) (h0:0<n) (hc:∀q,Cb (c q)):AF Tryz.prog 180 [.slc 1 1 λ_=>Cj n c,.bool g] (Ki (Ll g c n n).1 (Ll g c n n).2):=by
 obtain⟨r,⟨b,h1,rfl⟩,h⟩:=Acx n c g hn hc
 rcases h1 with⟨h2,_⟩|⟨_,h2⟩
 omega
 rw[h2] at h;exact h
abbrev AdE (x y:Int):Value:= .agg #[.bool (decide (x<0)),.string (Df x.natAbs),.bool (decide (y<0)),.string (Df y.natAbs)]
theorem yX {e:Nat} {z:Int} (h:Bd e z):bitLen z.natAbs<=e+1:=Ec.2 (Nat.lt_of_le_of_lt h.le (Nat.pow_lt_pow_right δ (Nat.lt_succ_self e)))
theorem lB (n:Nat) (c:Nat->Int) (hn:n<=25) (hc:∀q,Cb (c q)):AF Tryz.prog 215 [Cj n c,.fn 216 []] (.bool false):=by
 refine As func215 rfl λB D0 hA0=>?_
 refine Ab 9 (Ad0 0 func235 (λ_ hD1=>?_))
 refine Ab 14 (kK [0,1,7,8] n (λq=>True) (λq=>⟨[(0,Cj n c),(1,.fn 216 []),(7,.int (n:Int)),(8,.int (q:Int))],[],0,19⟩) trivial (λq hqn hFq J1 hJ1=>?_))
 refine Ab 6 (Mf 9 ((q:Int)<(n:Int)) (λhx2 hx2d=>?_) (λhx2 hx2d=>?_))
 ·
  refine Ab 16 (Ob q n (Ab 1 (cA 0 func216 (λ_ hD3=>?_))))
  exact Ab 9 (Aw (Dj (c q) (hc q)) (Ab 5 (vrI (Ab 7 (Ig ((q:Int)+1) ((q+1:Nat):Int) (Ab 2 (Ys [0,1,7,8] [] 0 0 hD1 [] trivial (hJ1 ω trivial))))))))
 ·
  exact Ab 12 (vrI (Ab 5 (Cy)))
theorem lC (n:Nat) (c:Nat->Int) (hn:n<=25) (h0:0<n) (hc:∀q,Cb (c q)):AF Tryz.prog 179 [Cj n c] (.bool true):=by
 refine As func179 rfl λB D0 hA0=>?_
 exact Ab 11 (Lj 6 (decide ((1:Int)<=(n:Int))) true (decide_eq_true ω) (Ab 5 (Lj 11 (decide ((n:Int)<=25)) true (decide_eq_true ω) (Ab 1 (Aw (lB n c hn hc) (Ab 6 (Cy)))))))
theorem Zx (n:Nat) (c:Nat->Int) (hn:n<=1000000) (hc:∀i,i<n->Cb (c i)):AF Tryz.prog 177 [Cj n c] (.int (Ch c n)):=by
 refine As func177 rfl λB D0 hA0=>?_
 refine Ab 19 (kK [3,6,7,8] n (λi=>True) (λi=>⟨[(3,.int (Ch c i)),(6,Cj n c),(7,.int (n:Int)),(8,.int (i:Int))],[],0,18⟩) trivial (λi hin hFi J1 hJ1=>?_))
 refine Ab 6 (Mf 9 ((i:Int)<(n:Int)) (λhx1 hx1d=>?_) (λhx1 hx1d=>?_))
 ·
  exact Ab 7 (Ob i n (Ab 8 (Aw (oN (c i) (hc i ω)) (Bb (.int (max (Ch c i) (bitLen (c i).natAbs:Int))) .none (Ni (.tmp 12) (.tmp 14) #[3,3] κ (Ch c i) (bitLen (c i).natAbs:Int) κ κ) (Ab 5 (Ig ((i:Int)+1) ((i+1:Nat):Int) (Ab 2 (Ys [3,6,7,8] [] 0 0 hA0 [] trivial (hJ1 ω trivial)))))))))
 ·
  exact Ab 13 (Fu (.int (Ch c i)) (congrArg (λz=>AV.int (Ch c z)) (show _=n by omega)))
theorem wW (L:Nat) (p:Nat->Int) (d:Nat) (hp:∀i,Bd 1000 (p i)) (hl:L=0\/p (L-1)≠0) (hL:L<=d+1) (hd:d<=24):AF Tryz.prog 130 [Cj L p,.int (d:Int)] (.tup [Cj (d+1) (ofZ p L d),.int 0]):=by
 have hs:=Te (c:=p) (k:=1001) L (λi _=>yX (hp i))
 refine As func130 rfl λB D0 hA0=>?_
 exact Ab 11 (Aw (Mm L p ω (λi _=>(hp i).fit δ) hl) (Ab 6 (Lj 14 (decide ((d:Int)<0)) false (decide_eq_false ω) (Ab 6 (Lj 6 (decide ((24:Int)<(d:Int))) false (decide_eq_false ω) (Ab 6 (Ig ((L:Int)-1) ((L:Int)-1) (Ab 4 (Lj 18 (decide ((d:Int)<(L:Int)-1)) false (decide_eq_false ω) (Ab 4 (Aw (Zx L p ω (λi _=>(hp i).fit δ)) (Ig ((Ch p L)+30) ((Ch p L)+30) (Ab 4 (Lj 24 (decide ((65536:Int)<(Ch p L)+30)) false (decide_eq_false ω) (Ab 8 (Aw (AdR L p d ω hp hd) (Ab 5 (Cy))))))))))))))))))
theorem lA (n:Nat) (c:Nat->Int) (hn:n<=25) (h0:0<n) (hc:∀q,Bd 1100 (c q)):AF Tryz.prog 131 [Cj n c] (.lit (.tuple #[AdE (Ll false c n n).1 (Ll false c n n).2,AdE (Ll true c n n).1 (Ll true c n n).2,.int .i64 0])):=by
 have hs:=Te (c:=c) (k:=1101) n (λi _=>yX (hc i))
 refine As func131 rfl λB D0 hA0=>?_
 exact Ab 18 (Aw (lC n c hn h0 (λq=>(hc q).fit δ)) (Ab 8 (Aw (Zx n c ω (λi _=>(hc i).fit δ)) (Ig ((Ch c n)+30) ((Ch c n)+30) (Ab 4 (Lj 13 (decide ((65536:Int)<(Ch c n)+30)) false (decide_eq_false ω) (Ab 7 (Bb (.osl 2 1 1) (.new 2 (.vec 269 1 1 (λ_=>Cj n c))) (Al 272 1 #[(0,(.tmp 20))] κ underlying272 1 sizeOf269 _ zeroValue269 κ β β β 2 [Cj n c] κ (λ_=>Cj n c) κ) (Bb (Ki ((Ll false c n n).1) ((Ll false c n n).2)) (.drop 2) (Kb 180 #[.tmp 21,(.const (.bool false))] #[272,4] κ (λ_ _=>by kernel_rfl) 2 (.vec 269 1 1 (λ_=>Cj n c)) κ (λ_ _ _ _ h=>by cases h;exact(Ro λ_ _=>rfl)) [.osl 2 1 1,.bool false] κ [.slc 1 1 (λ_=>Cj n c),.bool false] κ (Ki ((Ll false c n n).1) ((Ll false c n n).2)) (Zz n c false hn h0 (λq=>(hc q).fit δ))) (Ab 1 (Bb (.osl 3 1 1) (.new 3 (.vec 269 1 1 (λ_=>Cj n c))) (Al 272 1 #[(0,(.tmp 23))] κ underlying272 1 sizeOf269 _ zeroValue269 κ β β β 3 [Cj n c] κ (λ_=>Cj n c) κ) (Bb (Ki ((Ll true c n n).1) ((Ll true c n n).2)) (.drop 3) (Kb 180 #[.tmp 24,(.const (.bool true))] #[272,4] κ (λ_ _=>by kernel_rfl) 3 (.vec 269 1 1 (λ_=>Cj n c)) κ (λ_ _ _ _ h=>by cases h;exact(Ro λ_ _=>rfl)) [.osl 3 1 1,.bool true] κ [.slc 1 1 (λ_=>Cj n c),.bool true] κ (Ki ((Ll true c n n).1) ((Ll true c n n).2)) (Zz n c true hn h0 (λq=>(hc q).fit δ))) (Ab 6 (Cy))))))))))))))
def Af2 (l:List Int) (d k:Nat):Prop:=0<l.length/\l.length<=6/\(∀i,Dd (l.getD i 0))/\d<=8/\k<2^d
theorem AgI {d:Nat} (h:d<=8):2^d<=256:=Nat.le_trans (Nat.pow_le_pow_right δ h) δ
theorem AgL {d:Nat} (h:d<=8):IntKind.wrap .i64 (1*2^min (d:Int).toNat 64)=((2^d:Nat):Int):=by
 match d,h with
 |0,_|1,_|2,_|3,_|4,_|5,_|6,_|7,_|8,_=>decide
theorem wY (s:Sg):AF Tryz.prog 104 [Pm s] (.agg [Be s.x,Be s.y,Be s.z]):=by
 refine As func104 rfl λB D0 hA0=>?_
 exact Ab 19 (Cy)
theorem nU {c:Nat->Int} {n j:Nat} (hc:∀q,Bd 1100 (c q)) (hn:n<=25) (hj:j<n):Bd 1100 (Ew c n j).1/\(Ew c n j).2<=3000000:=by
 have w:=Vy (n-1) ω j ω
 exact⟨(hc j).div _,Int.le_trans (Int.ediv_le_self _ w.1) w.2⟩
theorem Xo {g:Bool} {c:Nat->Int} {n:Nat} (hc:∀q,Bd 1100 (c q)) (hn:n<=25):∀j,0<j->j<=n->Bd 1100 (Ll g c n j).1/\(Ll g c n j).2<=3000000
 |0,h,_=>absurd h (Nat.lt_irrefl 0)
 |j+1,_,h=>by
  have ht:=nU hc hn (j:=j) ω
  by_cases h0:j=0
  rw[Ae2 h0];exact ht
  have ih:=Xo (g:=g) hc hn j ω ω
  rw[Ll,if_neg h0]
  split
  exact ih
  split
  exact ih
  exact ht
abbrev spP (l:List Int) (d k:Nat):Nat->Int:=oc1 l (k:Int) 1 ((2^d:Nat):Int)
abbrev spN (l:List Int) (d k:Nat):Nat:=Gg (spP l d k) (ocN l)
abbrev spC (l:List Int) (d k:Nat):Nat->Int:=ofZ (spP l d k) (spN l d k) (l.length-1)
abbrev eU (g:Bool) (l:List Int) (d k:Nat):Int×Int:=Ll g (spC l d k) (l.length-1+1) (l.length-1+1)
abbrev qK (g:Bool) (l:List Int) (o:Int) (d k:Nat):Int:=o*((2^(d*(l.length-1)):Nat):Int)*(eU g l d k).2
def flI (x y:Int):Int:=iR (x/Oy x y/(y/Oy x y))
def Ub (l:List Int) (o:Int) (d k:Nat):Int:=flI (eU false l d k).1 (qK false l o d k)
def Jc (l:List Int) (o:Int) (d k:Nat):Int:=flI (-(eU true l d k).1) (qK true l o d k)
theorem Wg (n x y:Int) (hn:Cb n) (hy:Cb y) (hf:Cb (n*y)):AF Tryz.prog 133 [WA n,Ki x y] (WA (n*y)):=by
 refine As func133 rfl λB D0 hA0=>?_
 exact Ab 12 (Aw (Vk n y hn hy hf) (Ab 15 (Cy)))
theorem Wc (x y:Int) (hx:Cb x) (hy:Cb y) (hp:0<y):AF Tryz.prog 135 [Ki x y] (.int (iR (x/y))):=by
 refine As func135 rfl λB D0 hA0=>?_
 exact Ab 9 (Aw (lH x y hx hy hp) (Ab 11 (Aw (xU (x/y) (Nb hx)) (Ab 14 (Cy)))))
theorem xW (x:Int) (hx:Cb x) (hn:Cb (-x)):AF Tryz.prog 136 [WA x] (.lit (.tuple #[Ak (-x),.int .i64 0])):=by
 have:=xX x hx
 rwa [Es hn,Hj hn] at this
theorem Bd.neg {e:Nat} {x:Int} (h:Bd e x):Bd e (-x):=⟨by rw[Int.natAbs_neg];exact h.le⟩
theorem Acd (k:Nat):Bd k ((2^k:Nat):Int):=⟨by rw[Int.natAbs_natCast];exact Nat.le_refl _⟩
theorem Wh (l:List Int) (o:Int) (d k:Nat) (h0:Af2 l d k) (h1:0<o/\o<=9223372036854775807) (h2: -9223372036854775807<=Jc l o d k/\Jc l o d k<=9223372036854775807):AF Tryz.prog 105 [Be l,.int o,.int (d:Int),.int (k:Int)] (.lit (.tuple #[.int .i64 (Ub l o d k),.int .i64 (-Jc l o d k)])):=by
 have hn1:=h0.1
 have hn2:=h0.2.1
 have hd8:=h0.2.2.2.1
 have hk:=h0.2.2.2.2
 have hp:=AgI hd8
 have hp0:=Nat.two_pow_pos d
 have ho:ocN l<=l.length:=Ps (dC l) l.length
 have ho2:spN l d k<=ocN l:=Ps _ _
 have hdk:(d:Int)*((l.length-1:Nat):Int)=((d*(l.length-1):Nat):Int):=(Int.natCast_mul _ _).symm
 have hd40:d*(l.length-1)<=8*5:=Nat.mul_le_mul hd8 ω
 have hbd:∀i,Bd 1000 (spP l d k i):=λi=>(Ae7 h0.2.2.1 ω ⟨ω,ω⟩ ⟨δ,δ⟩ ⟨ω,ω⟩ i).mono δ
 have hcb:∀q,Bd 1100 (spC l d k q):=Ae9 hbd ω
 have hcf:∀q,Cb (spC l d k q):=λq=>(hcb q).fit δ
 have hL:=pQ (g:=false) hcf (by omega:l.length-1+1<=25) (l.length-1+1) ω (Nat.le_refl _)
 have hU:=pQ (g:=true) hcf (by omega:l.length-1+1<=25) (l.length-1+1) ω (Nat.le_refl _)
 have sL:=Xo (g:=false) hcb (by omega:l.length-1+1<=25) (l.length-1+1) ω (Nat.le_refl _)
 have sU:=Xo (g:=true) hcb (by omega:l.length-1+1<=25) (l.length-1+1) ω (Nat.le_refl _)
 have hsh:Bd 200 (o*((2^(d*(l.length-1)):Nat):Int)):=((Bd.int (by omega: -9223372036854775808<=o) ω).mul (Acd _)).mono ω
 have hbl:Cb (qK false l o d k):=(hsh.mul (Bd.int (x:=(eU false l d k).2) (Int.le_trans δ (Int.le_of_lt hL.2.2)) (Int.le_trans sL.2 δ))).fit δ
 have hbu:Cb (qK true l o d k):=(hsh.mul (Bd.int (x:=(eU true l d k).2) (Int.le_trans δ (Int.le_of_lt hU.2.2)) (Int.le_trans sU.2 δ))).fit δ
 have hsp:0<o*((2^(d*(l.length-1)):Nat):Int):=Int.mul_pos h1.1 (by have:=Nat.two_pow_pos (d*(l.length-1));omega)
 have hpl:0<qK false l o d k:=Int.mul_pos hsp hL.2.2
 have hpu:0<qK true l o d k:=Int.mul_pos hsp hU.2.2
 have hN:Cb (-(eU true l d k).1):=sU.1.neg.fit δ
 refine As func105 rfl λB D0 hA0=>?_
 refine Ab 9 (Aw (rL l h0.1 ω h0.2.2.1) (Ab 8 (Fa [(2,_,.none),(3,_,.none),(5,.int ((2^d:Nat):Int),.none),(6,_,.none),(7,_,.none)] [0,1,2,10] ⟨Cx (Ga (k:Int) ω ω),Cx (Ga 1 ω ω),Bc (Cg (v:= .int .i64 (IntKind.wrap .i64 (1*2^min (d:Int).toNat 64))) (v':= .int .i64 ((2^d:Nat):Int)) _ κ rfl κ (λw=>by kernel_rfl) (congrArg (Value.int .i64) (AgL h0.2.2.2.1))),Cx (Ga ((2^d:Nat):Int) ω ω),Cx (lD (ocN l) (dC l) (k:Int) 1 ((2^d:Nat):Int) ω h0.2.2.1 (Rk _ _) ⟨ω,ω⟩ ⟨δ,δ⟩ ⟨ω,ω⟩ ω),trivial⟩ (Ab 6 (Ig ((l.length:Int)-1) ((l.length-1:Nat):Int) (Aw (wW (spN l d k) (spP l d k) (l.length-1) hbd (Rk _ _) ω ω) (Ab 10 (Aw (lA (l.length-1+1) (spC l d k) ω ω hcb) (Ab 14 (Aw (Ga o ω ω) (Ab 3 (Ig ((l.length:Int)-1) ((l.length-1:Nat):Int) (Cn (.int .i64 (IntKind.wrap .i64 ((d:Int)*((l.length-1:Nat):Int)))) (.int .i64 ((d*(l.length-1):Nat):Int)) ?_ (congrArg (Value.int .i64) ((IntWalk.i64_in _ ω).trans (by rw[Int.natCast_mul]))))))))))))))))
 exact Aw (Wk o (d*(l.length-1)) (Ez ω ω) ω (hsh.fit δ)) (Ab 12 (Aw (Wg (o*((2^(d*(l.length-1)):Nat):Int)) ((eU false l d k).1) ((eU false l d k).2) (hsh.fit δ) hL.2.1 hbl) (Ab 8 (Aw (Qv ((eU false l d k).1) (qK false l o d k) hL.1 hbl hpl) (Ab 11 (Aw (Wc (((eU false l d k).1)/Oy ((eU false l d k).1) (qK false l o d k)) ((qK false l o d k)/Oy ((eU false l d k).1) (qK false l o d k)) (Rh hL.1 hbl hpl).1 (Rh hL.1 hbl hpl).2.1 (Rh hL.1 hbl hpl).2.2) (Ab 7 (Aw (xW (eU true l d k).1 hU.1 hN) (Ab 11 (Aw (Ga o ω ω) (Ab 3 (Ig ((l.length:Int)-1) ((l.length-1:Nat):Int) (Ig ((d:Int)*((l.length-1:Nat):Int)) ((d:Int)*((l.length-1:Nat):Int)) (Aw (Wk o (d*(l.length-1)) (Ez ω ω) ω (hsh.fit δ)) (Ab 10 (Aw (Wg (o*((2^(d*(l.length-1)):Nat):Int)) ((eU true l d k).1) ((eU true l d k).2) (hsh.fit δ) hU.2.1 hbu) (Ab 7 (Aw (Qv (-(eU true l d k).1) (qK true l o d k) hN hbu hpu) (Ab 12 (Aw (Wc ((-(eU true l d k).1)/Oy (-(eU true l d k).1) (qK true l o d k)) ((qK true l o d k)/Oy (-(eU true l d k).1) (qK true l o d k)) (Rh hN hbu hpu).1 (Rh hN hbu hpu).2.1 (Rh hN hbu hpu).2.2) (Ig (0-(Jc l o d k)) (-Jc l o d k) (Ab 5 (Cy)))))))))))))))))))))))
structure Bx where
 lo:V3
 hi:V3
abbrev bxV (b:Bx):Value:= .agg #[.int .i64 b.lo.x,.int .i64 b.lo.y,.int .i64 b.lo.z,.int .i64 b.hi.x,.int .i64 b.hi.y,.int .i64 b.hi.z]
abbrev bxA (b:Bx):AV:= .lit (bxV b)
theorem Wb (b:Bx):AF Tryz.prog 107 [bxA b] (.lit (.agg #[.int .i64 b.lo.x,.int .i64 b.lo.y,.int .i64 b.lo.z,.int .i64 b.hi.x,.int .i64 b.lo.y,.int .i64 b.lo.z,.int .i64 b.hi.x,.int .i64 b.hi.y,.int .i64 b.lo.z,.int .i64 b.lo.x,.int .i64 b.hi.y,.int .i64 b.lo.z])):=by
 refine As func107 rfl λB D0 hA0=>?_
 exact Ab 7 (Fa [] [2,3,4] trivial (Ab 30 (Cy)))
def AdA:Nat->Nat
 |0=>0
 |_+1=>1
def AdB (g:FuncId) (x y:AV):Nat->AV
 |0=> .top
 |m+1=> .fn g [x,y,.elt (AdA m) λ_=>AdB g x y m]
abbrev jN (g:FuncId) (x y:AV) (m:Nat):AV:= .elt (AdA m) λ_=>AdB g x y m
theorem Aer {E:Aq} {g:FuncId} {l:List AV} {v:Value} (h:VR E (.fn g l) v):∃vs,v= .func (.func g) #[] vs/\vs.size=l.length/\∀i,i<l.length->VR E (l.getD i .top) (vs.getD i undef):=by
 cases h with
 |fn _ _ _ vs hn h=>exact⟨vs,rfl,hn,h⟩
theorem AaP {B:Nat} {D0 E:Aq} {c:Nat->Option Bf} (hh:HR B D0 E c) {id:Nat} {t:TypeId} {g:FuncId} {x y:AV} (hx:x.flat=true) (hy:y.flat=true) (hc:c id=some (.box t [.fn g [x,y,.ptr id 0]])):∀(m:Nat) (v:Value),VR E (.ptr id 0) v->VR (E.fr id).fz (jN g x y m) v:=by
 obtain⟨arr,hb,hvs⟩:=hh.box hc
 obtain⟨vs,e1,e2,e3⟩:=Aer (hvs.2 0)
 have h0:=e3 0 (by simp)
 have h1:=e3 1 (by simp)
 have h2:=e3 2 (by simp)
 intro m
 induction m with
 |zero=>
  intro v hv
  cases hv with
  |ptr _ _ _ hA=>exact .elt _ _ _ _ _ (λ_=>undef) (.inr rfl) (λj hj=>absurd hj (Nat.not_lt_zero j)) λj hj=>absurd hj (Nat.not_lt_zero j)
 |succ m ih=>
  intro v hv
  have hsz:0<arr.size:=by rw[hvs.1];simp
  cases hv with
  |ptr _ _ _ hA=>
   refine .elt _ _ _ _ _ (λj=>arr.getD j undef) (.inr rfl) (λj hj=>?_) λj hj=>?_
   obtain rfl:j=0:=by have:j<1:=hj;omega
   exact Ih hb hsz
   obtain rfl:j=0:=by have:j<1:=hj;omega
   show VR _ (.fn g [x,y,jN g x y m]) (arr.getD 0 undef)
   rw[e1]
   refine .fn _ _ _ _ (by rw[e2];rfl) λi hi=>?_
   match i,hi with
   |0,_=>exact(h0.flat hx).up (E.le_fr id).fz
   |1,_=>exact(h1.flat hy).up (E.le_fr id).fz
   |2,_=>exact ih _ h2
def frzP (id:Nat) (V:AV):AV->AV
 | .ptr id' off=>if id'=id then (if off=0 then V else .top) else .ptr id' off
 |x=>x
def Bv.frzP (c:Bv) (id:Nat) (V:AV):Bv:=⟨c.m,c.k,⟨mapT (YthhkfanbmpcmbaaGreatDoor.frzP id V) c.s.t,(Fg c.s.h id).map λp=>(p.1,p.2.mapB (YthhkfanbmpcmbaaGreatDoor.frzP id V)),c.s.nx,c.s.n⟩⟩
theorem Agc {P:Program} {R:Option Nat} {B:Nat} {D0:Aq} {Q:Exit->St->Prop} {c:Bv} (id:Nat) (g:FuncId) (x y:AV) (m:Nat) (hk:Go P R B D0 Q (c.frzP id (jN g x y m))) (hc:Ao c.s.h id=some (.box (c.boxT id) [.fn g [x,y,.ptr id 0]]):=by kernel_rfl) (hf:(x.flat&&y.flat)=true:=by kernel_rfl):Go P R B D0 Q c:=by
 obtain⟨hx,hy⟩:=Bool.and_eq_true_iff.1 hf
 refine Fv _ (λE a hs=>Ox id (YthhkfanbmpcmbaaGreatDoor.frzP id (jN g x y m)) _ rfl hc (λE z v hh hv=>?_) E a hs) hk
 have up:=hv.up (E.le_fr id)
 unfold YthhkfanbmpcmbaaGreatDoor.frzP
 split
 rename_i id' off
 by_cases e1:id'=id
 subst e1
 rw[if_pos rfl]
 by_cases e2:off=0
 subst e2
 rw[if_pos rfl]
 exact(AaP hh hx hy hc m v hv).up (Aq.fz_le _)
 rw[if_neg e2];exact .top _ _
 rw[if_neg e1];exact up
 exact up
abbrev Fz (s:Sg):AV:= .elt 6 λxi=>[AV.int s.f,AV.int s.t,AV.int s.o,Be s.x,Be s.y,Be s.z].getD (0+xi) .top
abbrev Oc (f:Fnc):AV:= .elt 4 λxi=>[Ny f.o,hsA f,AV.int f.low,AV.int f.high].getD (0+xi) .top
abbrev Qi (s:Sg) (f:Fnc):Nat->AV:=jN 80 (Fz s) (Oc f)
def lP (l:List Int) (o:Int) (d k:Nat):Prop:=Af2 l d k/\-9223372036854775807<=Jc l o d k/\Jc l o d k<=9223372036854775807
def Af6 (s:Sg) (d k:Nat):Bx:=⟨⟨Ub s.x s.o d k,Ub s.y s.o d k,Ub s.z s.o d k⟩,⟨-Jc s.x s.o d k,-Jc s.y s.o d k,-Jc s.z s.o d k⟩⟩
theorem rA (s:Sg) (d k:Nat) (h1:0<s.o/\s.o<=9223372036854775807) (hx:lP s.x s.o d k) (hy:lP s.y s.o d k) (hz:lP s.z s.o d k):AF Tryz.prog 81 [Pm s,.int (d:Int),.int (k:Int)] (bxA (Af6 s d k)):=by
 refine As func81 rfl λB D0 hA0=>?_
 exact Ab 16 (Aw (wY s) (Ab 4 (Qk 3 (Ab 14 (Bb (Be s.x) .none (Fo 176 (.tmp 12) (.tmp 13) κ underlying176 1 sizeOf80 0 false isAgg80 [Be s.x,Be s.y,Be s.z] 0 κ κ ω δ β δ (Be s.x) κ) (Ab 12 (Aw (Wh s.x s.o d k hx.1 h1 hx.2) (Ab 3 (Bb (.ptr 2 0) .none (Ai 52 (.tmp 7) (.tmp 18) κ underlying52 2 0 1 0 0 κ κ sizeOf3 δ ω δ) (Ab 1 (Bb (.ptr 3 0) .none (Ai 52 (.tmp 8) (.tmp 19) κ underlying52 3 0 1 0 0 κ κ sizeOf3 δ ω δ) (Ab 5 (Cn (.int .i64 1) (.int .i64 1) (Ab 17 (Bb (Be s.y) .none (Fo 176 (.tmp 12) (.tmp 13) κ underlying176 1 sizeOf80 1 false isAgg80 [Be s.x,Be s.y,Be s.z] 1 κ κ ω δ β δ (Be s.y) κ) (Ab 12 (Aw (Wh s.y s.o d k hy.1 h1 hy.2) (Ab 3 (Bb (.ptr 2 1) .none (Ai 52 (.tmp 7) (.tmp 18) κ underlying52 2 0 1 1 1 κ κ sizeOf3 δ ω δ) (Ab 1 (Bb (.ptr 3 1) .none (Ai 52 (.tmp 8) (.tmp 19) κ underlying52 3 0 1 1 1 κ κ sizeOf3 δ ω δ) (Ab 5 (Cn (.int .i64 2) (.int .i64 2) (Ab 17 (Bb (Be s.z) .none (Fo 176 (.tmp 12) (.tmp 13) κ underlying176 1 sizeOf80 2 false isAgg80 [Be s.x,Be s.y,Be s.z] 2 κ κ ω δ β δ (Be s.z) κ) (Ab 12 (Aw (Wh s.z s.o d k hz.1 h1 hz.2) (Ab 3 (Bb (.ptr 2 2) .none (Ai 52 (.tmp 7) (.tmp 18) κ underlying52 2 0 1 2 2 κ κ sizeOf3 δ ω δ) (Ab 1 (Bb (.ptr 3 2) .none (Ai 52 (.tmp 8) (.tmp 19) κ underlying52 3 0 1 2 2 κ κ sizeOf3 δ ω δ) (Ab 5 (Cn (.int .i64 3) (.int .i64 3) (Ab 17 (Bb (.ptr 2 0) .none (Ai 52 (.tmp 7) (.const (.int .i64 0)) κ underlying52 2 0 1 0 0 κ κ sizeOf3 δ ω δ) (Ab 1 (Bb (.ptr 2 1) .none (Ai 52 (.tmp 7) (.const (.int .i64 1)) κ underlying52 2 0 1 1 1 κ κ sizeOf3 δ ω δ) (Ab 1 (Bb (.ptr 2 2) .none (Ai 52 (.tmp 7) (.const (.int .i64 2)) κ underlying52 2 0 1 2 2 κ κ sizeOf3 δ ω δ) (Ab 2 (Bb (.ptr 3 0) .none (Ai 52 (.tmp 8) (.const (.int .i64 0)) κ underlying52 3 0 1 0 0 κ κ sizeOf3 δ ω δ) (Ab 1 (Bb (.ptr 3 1) .none (Ai 52 (.tmp 8) (.const (.int .i64 1)) κ underlying52 3 0 1 1 1 κ κ sizeOf3 δ ω δ) (Ab 1 (Bb (.ptr 3 2) .none (Ai 52 (.tmp 8) (.const (.int .i64 2)) κ underlying52 3 0 1 2 2 κ κ sizeOf3 δ ω δ) (Ab 7 (Cy)))))))))))))))))))))))))))))))))))))))))))))))
def Kh (v:V3):Prop:=(-2097152<=v.x/\v.x<=2097152)/\(-2097152<=v.y/\v.y<=2097152)/\(-2097152<=v.z/\v.z<=2097152)
instance (v:V3):Decidable (Kh v):=by unfold Kh;exact inferInstance
theorem Kh.val {v:V3} (h:Kh v):Et 16777216 [v.x,v.y,v.z]=true:=by
 obtain⟨h1,h2,h3⟩:=h
 unfold Et
 simp
 omega
theorem Aa8 {u v:Int} (h1: -4194304<=u/\u<=4194304) (h2: -4194304<=v/\v<=4194304): -17592186044416<=u*v/\u*v<=17592186044416:=by
 have h:(u*v).natAbs<=4194304*4194304:=by rw[Int.natAbs_mul];exact Nat.mul_le_mul ω ω
 omega
def sgI (n:Int):Int:=if n<0 then -1 else if 0<n then 1 else 0
def Yo (a b c:V3):Int:=sgI ((b.x-a.x)*(c.y-a.y)-(b.y-a.y)*(c.x-a.x))
theorem rM (n:Int):AF Tryz.prog 115 [.int n] (.int (sgI n)):=by
 refine As func115 rfl λB D0 hA0=>?_
 refine Ab 14 (Mf 3 (n<0) (λhx1 hx1d=>?_) (λhx1 hx1d=>?_))
 ·
  exact Ab 9 (Fu (.int (-1)) (congrArg AV.int (by unfold sgI;rw[if_pos hx1d])))
 ·
  refine Ab 8 (Mf 6 ((0:Int)<n) (λhx2 hx2d=>?_) (λhx2 hx2d=>?_))
  ·
   exact Ab 9 (Fu (.int 1) (congrArg AV.int (by unfold sgI;rw[if_neg hx1d,if_pos hx2d])))
  ·
   exact Ab 10 (Fu (.int 0) (congrArg AV.int (by unfold sgI;rw[if_neg hx1d,if_neg hx2d])))
theorem lI (v:V3) (h:Kh v):AF Tryz.prog 114 [Fm v] (.bool true):=by
 have:=rO v
 rwa [h.val] at this
theorem rN (a b c:V3) (ha:Kh a) (hb:Kh b) (hc:Kh c):AF Tryz.prog 92 [Fm a,Fm b,Fm c] (.lit (.tuple #[.int .i64 (Yo a b c),.int .i64 0])):=by
 obtain⟨a1,a2,a3⟩:=id ha
 obtain⟨b1,b2,b3⟩:=id hb
 obtain⟨c1,c2,c3⟩:=id hc
 have m1:=Aa8 (u:=b.x-a.x) (v:=c.y-a.y) ⟨ω,ω⟩ ⟨ω,ω⟩
 have m2:=Aa8 (u:=b.y-a.y) (v:=c.x-a.x) ⟨ω,ω⟩ ⟨ω,ω⟩
 refine As func92 rfl λB D0 hA0=>?_
 exact Ab 13 (Aw (lI a ha) (Ab 3 (Aw (lI b hb) (Ab 4 (Aw (lI c hc) (Ab 13 (Ig (b.x-a.x) (b.x-a.x) (Ab 4 (Ig (c.y-a.y) (c.y-a.y) (Ig ((b.x-a.x)*(c.y-a.y)) ((b.x-a.x)*(c.y-a.y)) (Ab 4 (Ig (b.y-a.y) (b.y-a.y) (Ab 4 (Ig (c.x-a.x) (c.x-a.x) (Ig ((b.y-a.y)*(c.x-a.x)) ((b.y-a.y)*(c.x-a.x)) (Ig ((b.x-a.x)*(c.y-a.y)-(b.y-a.y)*(c.x-a.x)) ((b.x-a.x)*(c.y-a.y)-(b.y-a.y)*(c.x-a.x)) (Aw (rM ((b.x-a.x)*(c.y-a.y)-(b.y-a.y)*(c.x-a.x))) (Ab 5 (Fu (.lit (.tuple #[.int .i64 (sgI ((b.x-a.x)*(c.y-a.y)-(b.y-a.y)*(c.x-a.x))),.int .i64 0])) (by unfold Yo;rfl))))))))))))))))))))
theorem Wi (a b c:V3) (ha:Kh a) (hb:Kh b) (hc:Kh c):AF Tryz.prog 70 [Fm a,Fm b,Fm c] (.int (Yo a b c)):=by
 refine As func70 rfl λB D0 hA0=>?_
 exact Ab 13 (Aw (rN a b c ha hb hc) (Ab 14 (Cy)))
theorem Ru (a b c:V3) (v:Int) (h:Kh a/\Kh b/\Kh c/\Yo a b c=v):AF Tryz.prog 70 [Fm a,Fm b,Fm c] (.int v):=by
 rw[<-h.2.2.2]
 exact Wi a b c h.1 h.2.1 h.2.2.1
theorem Lm (v:V3) (h:Et 1048576 [v.x,v.y,v.z]=true):AF Tryz.prog 47 [Fm v] (.bool true):=by
 have:=xP v
 rwa [h] at this
def onB (a b p:V3):Bool:=decide (Yo a b p=0)&&(decide (min a.x b.x<=p.x)&&(decide (p.x<=max a.x b.x)&&(decide (min a.y b.y<=p.y)&&decide (p.y<=max a.y b.y))))
theorem AdS (a b p:V3) (ha:Kh a) (hb:Kh b) (hp:Kh p):AF Tryz.prog 66 [Fm a,Fm b,Fm p] (.bool (onB a b p)):=by
 refine As func66 rfl λB D0 hA0=>?_
 refine Ab 13 (Aw (Wi a b p ha hb hp) (Ab 2 (Mf 12 ((Yo a b p)=0) (λhx1 hx1d=>?_) (λhx1 hx1d=>?_))))
 ·
  refine Ab 6 (Bb (.int (min a.x b.x)) .none (qC (.tmp 16) (.tmp 18) #[3,3] κ a.x b.x κ κ) (Ab 3 (Mf 22 (min a.x b.x<=p.x) (λhx2 hx2d=>?_) (λhx2 hx2d=>?_))))
  ·
   refine Ab 6 (Bb (.int (max a.x b.x)) .none (Ni (.tmp 26) (.tmp 28) #[3,3] κ a.x b.x κ κ) (Ab 3 (Mf 32 (p.x<=max a.x b.x) (λhx3 hx3d=>?_) (λhx3 hx3d=>?_))))
   ·
    refine Ab 6 (Bb (.int (min a.y b.y)) .none (qC (.tmp 36) (.tmp 38) #[3,3] κ a.y b.y κ κ) (Ab 3 (Mf 42 (min a.y b.y<=p.y) (λhx4 hx4d=>?_) (λhx4 hx4d=>?_))))
    ·
     exact Ab 6 (Bb (.int (max a.y b.y)) .none (Ni (.tmp 46) (.tmp 48) #[3,3] κ a.y b.y κ κ) (Ab 6 (Fu (.bool (decide (p.y<=max a.y b.y))) (congrArg AV.bool (by simp only[onB,hx1,hx2,hx3,hx4,Bool.true_and])))))
    ·
     exact Ab 13 (Fu (.bool false) (congrArg AV.bool (by simp only[onB,hx1,hx2,hx3,hx4,Bool.and_false,Bool.false_and])))
   ·
    exact Ab 23 (Fu (.bool false) (congrArg AV.bool (by simp only[onB,hx1,hx2,hx3,Bool.and_false,Bool.false_and])))
  ·
   exact Ab 33 (Fu (.bool false) (congrArg AV.bool (by simp only[onB,hx1,hx2,Bool.and_false,Bool.false_and])))
 ·
  exact Ab 43 (Fu (.bool false) (congrArg AV.bool (by simp only[onB,hx1,Bool.false_and])))
theorem Gj (a b p:V3) (v:Bool) (h:Kh a/\Kh b/\Kh p/\onB a b p=v):AF Tryz.prog 66 [Fm a,Fm b,Fm p] (.bool v):=by
 rw[<-h.2.2.2]
 exact AdS a b p h.1 h.2.1 h.2.2.1
def sqF:Nat->V3
 |0=>⟨-10,-10,0⟩
 |1=>⟨10,-10,0⟩
 |2=>⟨10,10,0⟩
 |3=>⟨-10,10,0⟩
 |_=>V3.zero
def Nx:Vs:=⟨4,sqF⟩
def Dw (h:Int):Fnc:=⟨Nx,0,λ_=>⟨0,λ_=>V3.zero⟩,0,h⟩
theorem rC:AF Tryz.prog 64 [Ny Nx,.fn 65 []] (.bool false):=by
 refine As func64 rfl λB D0 hA0=>?_
 refine Ab 9 (Ad0 0 func91 (λ_ hD1=>?_))
 refine Ab 14 (Qk 4 (Ab 22 (Ob 0 4 (Ab 1 (cA 0 func65 (λ_ hD2=>?_))))))
 refine Ab 9 (Aw (Lm ⟨-10,-10,0⟩ δ) (Ab 5 (vrI (Ab 7 (Cn (.int .i64 1) (.int .i64 1) (Ab 25 (Ob 1 4 (Ab 1 (cA 1 func65 (λ_ hD3=>?_))))))))))
 refine Ab 9 (Aw (Lm ⟨10,-10,0⟩ δ) (Ab 5 (vrI (Ab 7 (Cn (.int .i64 2) (.int .i64 2) (Ab 25 (Ob 2 4 (Ab 1 (cA 2 func65 (λ_ hD4=>?_))))))))))
 refine Ab 9 (Aw (Lm ⟨10,10,0⟩ δ) (Ab 5 (vrI (Ab 7 (Cn (.int .i64 3) (.int .i64 3) (Ab 25 (Ob 3 4 (Ab 1 (cA 3 func65 (λ_ hD5=>?_))))))))))
 exact Ab 9 (Aw (Lm ⟨-10,10,0⟩ δ) (Ab 5 (vrI (Ab 7 (Cn (.int .i64 4) (.int .i64 4) (Ab 21 (vrI (Ab 5 (Cy)))))))))
theorem vD:∃r,r=AV.bool true/\AF Tryz.prog 43 [Ny Nx] r:=by
 refine Di func43 rfl ?_
 exact Au 23 (gs (Aw rC ·) (Au 14 (gs (Qk 4 ·) (Au 18 (gs (Fa [(2,Eb (Ny Nx) 0,.none),(9,Eb (Ny Nx) 1,.none)] [0,3,4,5,6,23,24] ⟨Nf 0 4,Nf 1 4,trivial⟩ ·) (Au 29 (gs (Qk 4 ·) (Au 14 (gs (Fa [(2,Eb (Ny Nx) 1,.none),(9,Eb (Ny Nx) 2,.none)] [0,3,4,5,6,7,8,9,23,24] ⟨Nf 1 4,Nf 2 4,trivial⟩ ·) (Au 26 (gs (Aw (Gj ⟨-10,-10,0⟩ ⟨10,-10,0⟩ ⟨10,10,0⟩ false δ) ·) (Au 5 (gs (Aw (Gj ⟨10,-10,0⟩ ⟨10,10,0⟩ ⟨-10,-10,0⟩ false δ) ·) (Au 36 (gs (Fa [(2,Eb (Ny Nx) 2,.none),(9,Eb (Ny Nx) 3,.none)] [0,3,4,5,6,7,8,9,23,24] ⟨Nf 2 4,Nf 3 4,trivial⟩ ·) (Au 39 (tcl func46 (Au 10 (gs (Fa [(3,_,.none),(8,_,.none),(14,_,.none),(20,_,.none),(26,_,.none),(30,_,.none)] [8] ⟨Cx (Gj ⟨-10,-10,0⟩ ⟨10,-10,0⟩ ⟨10,10,0⟩ false δ),Cx (Gj ⟨-10,-10,0⟩ ⟨10,-10,0⟩ ⟨-10,10,0⟩ false δ),Cx (Gj ⟨10,10,0⟩ ⟨-10,10,0⟩ ⟨-10,-10,0⟩ false δ),Cx (Gj ⟨10,10,0⟩ ⟨-10,10,0⟩ ⟨10,-10,0⟩ false δ),Cx (Ru ⟨-10,-10,0⟩ ⟨10,-10,0⟩ ⟨10,10,0⟩ 1 δ),Cx (Ru ⟨-10,-10,0⟩ ⟨10,-10,0⟩ ⟨-10,10,0⟩ 1 δ),trivial⟩ ·) (Au 2 (trt (Au 35 (gs (Fa [(2,Eb (Ny Nx) 3,.none),(9,Eb (Ny Nx) 0,.none)] [0,3,4,5,6,7,8,9,23,24] ⟨Nf 3 4,Nf 0 4,trivial⟩ ·) (Au 38 (gs (Aw (Gj ⟨-10,-10,0⟩ ⟨10,-10,0⟩ ⟨-10,10,0⟩ false δ) ·) (Au 5 (gs (Aw (Gj ⟨-10,10,0⟩ ⟨-10,-10,0⟩ ⟨10,-10,0⟩ false δ) ·) (Au 60 (gs (Fa [(2,Eb (Ny Nx) 1,.none),(9,Eb (Ny Nx) 2,.none)] [0,3,4,5,6,23,24] ⟨Nf 1 4,Nf 2 4,trivial⟩ ·) (Au 29 (gs (Qk 4 ·) (Au 14 (gs (Fa [(2,Eb (Ny Nx) 2,.none),(9,Eb (Ny Nx) 3,.none)] [0,3,4,5,6,7,8,9,23,24] ⟨Nf 2 4,Nf 3 4,trivial⟩ ·) (Au 26 (gs (Aw (Gj ⟨10,-10,0⟩ ⟨10,10,0⟩ ⟨-10,10,0⟩ false δ) ·) (Au 5 (gs (Aw (Gj ⟨10,10,0⟩ ⟨-10,10,0⟩ ⟨10,-10,0⟩ false δ) ·) (Au 36 (gs (Fa [(2,Eb (Ny Nx) 3,.none),(9,Eb (Ny Nx) 0,.none)] [0,3,4,5,6,7,8,9,23,24] ⟨Nf 3 4,Nf 0 4,trivial⟩ ·) (Au 39 (tcl func46 (Au 10 (gs (Fa [(3,_,.none),(8,_,.none),(14,_,.none),(20,_,.none),(26,_,.none),(30,_,.none)] [8] ⟨Cx (Gj ⟨10,-10,0⟩ ⟨10,10,0⟩ ⟨-10,10,0⟩ false δ),Cx (Gj ⟨10,-10,0⟩ ⟨10,10,0⟩ ⟨-10,-10,0⟩ false δ),Cx (Gj ⟨-10,10,0⟩ ⟨-10,-10,0⟩ ⟨10,-10,0⟩ false δ),Cx (Gj ⟨-10,10,0⟩ ⟨-10,-10,0⟩ ⟨10,10,0⟩ false δ),Cx (Ru ⟨10,-10,0⟩ ⟨10,10,0⟩ ⟨-10,10,0⟩ 1 δ),Cx (Ru ⟨10,-10,0⟩ ⟨10,10,0⟩ ⟨-10,-10,0⟩ 1 δ),trivial⟩ ·) (Au 2 (trt (Au 59 (gs (Fa [(2,Eb (Ny Nx) 2,.none),(9,Eb (Ny Nx) 3,.none)] [0,3,4,5,6,23,24] ⟨Nf 2 4,Nf 3 4,trivial⟩ ·) (Au 29 (gs (Qk 4 ·) (Au 14 (gs (Fa [(2,Eb (Ny Nx) 3,.none),(9,Eb (Ny Nx) 0,.none)] [0,3,4,5,6,7,8,9,23,24] ⟨Nf 3 4,Nf 0 4,trivial⟩ ·) (Au 26 (gs (Aw (Gj ⟨10,10,0⟩ ⟨-10,10,0⟩ ⟨-10,-10,0⟩ false δ) ·) (Au 5 (gs (Aw (Gj ⟨-10,10,0⟩ ⟨-10,-10,0⟩ ⟨10,10,0⟩ false δ) ·) (Au 60 (gs (Fa [(2,Eb (Ny Nx) 3,.none),(9,Eb (Ny Nx) 0,.none)] [0,3,4,5,6,23,24] ⟨Nf 3 4,Nf 0 4,trivial⟩ ·) (Au 29 (gs (Qk 4 ·) (Au 38 (Mj (r:= .bool true) rfl)))))))))))))))))))))))))))))))))))))))))))))))))))))))))))))
theorem fL:AF Tryz.prog 43 [Ny Nx] (.bool true):=by
 obtain⟨_,rfl,h⟩:=vD
 exact h
abbrev nE (z:Int):V3:=⟨0,0,z⟩
theorem Rv (a b:V3) (z v:Int) (hz:0<=z/\z<=2097152) (h:Kh a/\Kh b/\Yo a b (nE 0)=v):AF Tryz.prog 70 [Fm a,Fm b,Fm (nE z)] (.int v):=by
 rw[<-h.2.2]
 exact Wi a b (nE z) h.1 h.2.1 ⟨⟨by show (-2097152:Int)<=0;decide,by show (0:Int)<=2097152;decide⟩,⟨by show (-2097152:Int)<=0;decide,by show (0:Int)<=2097152;decide⟩,⟨by show -2097152<=z;omega,hz.2⟩⟩
theorem rD (n:Int):AF Tryz.prog 72 [.int n] (.int (sgI n)):=by
 refine As func72 rfl λB D0 hA0=>?_
 refine Ab 14 (Mf 3 (n<0) (λhx1 hx1d=>?_) (λhx1 hx1d=>?_))
 ·
  exact Ab 9 (Fu (.int (-1)) (congrArg AV.int (by unfold sgI;rw[if_pos hx1d])))
 ·
  refine Ab 8 (Mf 6 ((0:Int)<n) (λhx2 hx2d=>?_) (λhx2 hx2d=>?_))
  ·
   exact Ab 9 (Fu (.int 1) (congrArg AV.int (by unfold sgI;rw[if_neg hx1d,if_pos hx2d])))
  ·
   exact Ab 10 (Fu (.int 0) (congrArg AV.int (by unfold sgI;rw[if_neg hx1d,if_neg hx2d])))
theorem Gx (n v:Int) (h:sgI n=v):AF Tryz.prog 72 [.int n] (.int v):=by
 rw[<-h]
 exact rD n
abbrev bxZ (z w:Int):Bx:=⟨nE z,nE w⟩
theorem aB (z:Int) (hz:0<=z/\z<=1048576):AF Tryz.prog 47 [Fm (nE z)] (.bool true):=by
 refine Lm (nE z) ?_
 unfold Et
 simp
 omega
theorem fN (h:Int) (hh:0<=h/\h<=1048576):∃r,r=AV.bool true/\AF Tryz.prog 25 [Sk (Dw h)] r:=by
 refine Di func25 rfl ?_
 refine Au 11 (gs (Aw fL ·) (Au 18 (jZ 36 ((1048576:Int)<h) (λhx1 hx1d=>?_) (λhx1 hx1d=>?_))))
 refine Au 16 ?_
 exact absurd hh ω
 refine Au 8 (jZ 42 (h<0) (λhx2 hx2d=>?_) (λhx2 hx2d=>?_))
 refine Au 8 ?_
 exact absurd hh ω
 exact Au 7 (gs (Bb (.osl 2 1 1) (.new 2 (.vec 32 1 1 (λ_=>Ny Nx))) (Al 36 1 #[(0,(.tmp 44))] κ underlying36 1 sizeOf32 _ zeroValue32 κ β β β 2 [Ny Nx] κ (λ_=>Ny Nx) κ) ·) (Au 14 (gs (Qk 0 ·) (Au 22 (gs (Qk 0 ·) (Au 18 (Mj (r:= .bool true) rfl)))))))
theorem Mq (h:Int) (hh:0<=h/\h<=1048576):AF Tryz.prog 25 [Sk (Dw h)] (.bool true):=by
 obtain⟨_,rfl,hA⟩:=fN h hh
 exact hA
theorem qW (z:Int) (hz:0<=z/\z<=1048576):∃r,r=AV.int 1/\AF Tryz.prog 69 [.lit (.agg #[.int .i64 (-10),.int .i64 (-10),.int .i64 0]),.lit (.agg #[.int .i64 10,.int .i64 (-10),.int .i64 0]),.elt 3 (λxi=>[.lit (.int .i64 0),.lit (.int .i64 0),.lit (.int .i64 z)].getD (0+xi) .top)] r:=by
 refine Di func69 rfl ?_
 exact Au 12 (gs (Aw (Rv ⟨-10,-10,0⟩ ⟨10,-10,0⟩ z 1 ⟨hz.1,ω⟩ δ) ·) (Au 4 (Mj (r:= .int 1) rfl)))
theorem wQ (z:Int) (hz:0<=z/\z<=1048576):AF Tryz.prog 69 [.lit (.agg #[.int .i64 (-10),.int .i64 (-10),.int .i64 0]),.lit (.agg #[.int .i64 10,.int .i64 (-10),.int .i64 0]),.elt 3 (λxi=>[.lit (.int .i64 0),.lit (.int .i64 0),.lit (.int .i64 z)].getD (0+xi) .top)] (.int 1):=by
 obtain⟨_,rfl,hA⟩:=qW z hz
 exact hA
theorem kS (z:Int) (_:0<=z/\z<=1048576):∃r,r=AV.int (-1)/\AF Tryz.prog 71 [.lit (.agg #[.int .i64 (-10),.int .i64 (-10),.int .i64 0]),.lit (.int .i64 0),.elt 3 (λxi=>[.lit (.int .i64 0),.lit (.int .i64 0),.lit (.int .i64 z)].getD (0+xi) .top)] r:=by
 refine Di func71 rfl ?_
 exact Au 21 (gs (Aw (Gx (-10) (-1) δ) ·) (Au 5 (Mj (r:= .int (-1)) rfl)))
theorem Zp (z:Int) (hz:0<=z/\z<=1048576):AF Tryz.prog 71 [.lit (.agg #[.int .i64 (-10),.int .i64 (-10),.int .i64 0]),.lit (.int .i64 0),.elt 3 (λxi=>[.lit (.int .i64 0),.lit (.int .i64 0),.lit (.int .i64 z)].getD (0+xi) .top)] (.int (-1)):=by
 obtain⟨_,rfl,hA⟩:=kS z hz
 exact hA
theorem kT (z:Int) (_:0<=z/\z<=1048576):∃r,r=AV.int (-1)/\AF Tryz.prog 71 [.lit (.agg #[.int .i64 (-10),.int .i64 (-10),.int .i64 0]),.lit (.int .i64 1),.elt 3 (λxi=>[.lit (.int .i64 0),.lit (.int .i64 0),.lit (.int .i64 z)].getD (0+xi) .top)] r:=by
 refine Di func71 rfl ?_
 exact Au 23 (gs (Aw (Gx (-10) (-1) δ) ·) (Au 4 (Mj (r:= .int (-1)) rfl)))
theorem Zq (z:Int) (hz:0<=z/\z<=1048576):AF Tryz.prog 71 [.lit (.agg #[.int .i64 (-10),.int .i64 (-10),.int .i64 0]),.lit (.int .i64 1),.elt 3 (λxi=>[.lit (.int .i64 0),.lit (.int .i64 0),.lit (.int .i64 z)].getD (0+xi) .top)] (.int (-1)):=by
 obtain⟨_,rfl,hA⟩:=kT z hz
 exact hA
theorem qX (z:Int) (hz:0<=z/\z<=1048576):∃r,r=AV.int 1/\AF Tryz.prog 69 [.lit (.agg #[.int .i64 10,.int .i64 (-10),.int .i64 0]),.lit (.agg #[.int .i64 10,.int .i64 10,.int .i64 0]),.elt 3 (λxi=>[.lit (.int .i64 0),.lit (.int .i64 0),.lit (.int .i64 z)].getD (0+xi) .top)] r:=by
 refine Di func69 rfl ?_
 exact Au 12 (gs (Aw (Rv ⟨10,-10,0⟩ ⟨10,10,0⟩ z 1 ⟨hz.1,ω⟩ δ) ·) (Au 4 (Mj (r:= .int 1) rfl)))
theorem wR (z:Int) (hz:0<=z/\z<=1048576):AF Tryz.prog 69 [.lit (.agg #[.int .i64 10,.int .i64 (-10),.int .i64 0]),.lit (.agg #[.int .i64 10,.int .i64 10,.int .i64 0]),.elt 3 (λxi=>[.lit (.int .i64 0),.lit (.int .i64 0),.lit (.int .i64 z)].getD (0+xi) .top)] (.int 1):=by
 obtain⟨_,rfl,hA⟩:=qX z hz
 exact hA
theorem kU (z:Int) (_:0<=z/\z<=1048576):∃r,r=AV.int 1/\AF Tryz.prog 71 [.lit (.agg #[.int .i64 10,.int .i64 (-10),.int .i64 0]),.lit (.int .i64 0),.elt 3 (λxi=>[.lit (.int .i64 0),.lit (.int .i64 0),.lit (.int .i64 z)].getD (0+xi) .top)] r:=by
 refine Di func71 rfl ?_
 exact Au 21 (gs (Aw (Gx 10 1 δ) ·) (Au 5 (Mj (r:= .int 1) rfl)))
theorem Zr (z:Int) (hz:0<=z/\z<=1048576):AF Tryz.prog 71 [.lit (.agg #[.int .i64 10,.int .i64 (-10),.int .i64 0]),.lit (.int .i64 0),.elt 3 (λxi=>[.lit (.int .i64 0),.lit (.int .i64 0),.lit (.int .i64 z)].getD (0+xi) .top)] (.int 1):=by
 obtain⟨_,rfl,hA⟩:=kU z hz
 exact hA
theorem kV (z:Int) (_:0<=z/\z<=1048576):∃r,r=AV.int (-1)/\AF Tryz.prog 71 [.lit (.agg #[.int .i64 10,.int .i64 (-10),.int .i64 0]),.lit (.int .i64 1),.elt 3 (λxi=>[.lit (.int .i64 0),.lit (.int .i64 0),.lit (.int .i64 z)].getD (0+xi) .top)] r:=by
 refine Di func71 rfl ?_
 exact Au 23 (gs (Aw (Gx (-10) (-1) δ) ·) (Au 4 (Mj (r:= .int (-1)) rfl)))
theorem Zs (z:Int) (hz:0<=z/\z<=1048576):AF Tryz.prog 71 [.lit (.agg #[.int .i64 10,.int .i64 (-10),.int .i64 0]),.lit (.int .i64 1),.elt 3 (λxi=>[.lit (.int .i64 0),.lit (.int .i64 0),.lit (.int .i64 z)].getD (0+xi) .top)] (.int (-1)):=by
 obtain⟨_,rfl,hA⟩:=kV z hz
 exact hA
theorem qY (z:Int) (hz:0<=z/\z<=1048576):∃r,r=AV.int 1/\AF Tryz.prog 69 [.lit (.agg #[.int .i64 10,.int .i64 10,.int .i64 0]),.lit (.agg #[.int .i64 (-10),.int .i64 10,.int .i64 0]),.elt 3 (λxi=>[.lit (.int .i64 0),.lit (.int .i64 0),.lit (.int .i64 z)].getD (0+xi) .top)] r:=by
 refine Di func69 rfl ?_
 exact Au 12 (gs (Aw (Rv ⟨10,10,0⟩ ⟨-10,10,0⟩ z 1 ⟨hz.1,ω⟩ δ) ·) (Au 4 (Mj (r:= .int 1) rfl)))
theorem wS (z:Int) (hz:0<=z/\z<=1048576):AF Tryz.prog 69 [.lit (.agg #[.int .i64 10,.int .i64 10,.int .i64 0]),.lit (.agg #[.int .i64 (-10),.int .i64 10,.int .i64 0]),.elt 3 (λxi=>[.lit (.int .i64 0),.lit (.int .i64 0),.lit (.int .i64 z)].getD (0+xi) .top)] (.int 1):=by
 obtain⟨_,rfl,hA⟩:=qY z hz
 exact hA
theorem kW (z:Int) (_:0<=z/\z<=1048576):∃r,r=AV.int 1/\AF Tryz.prog 71 [.lit (.agg #[.int .i64 10,.int .i64 10,.int .i64 0]),.lit (.int .i64 0),.elt 3 (λxi=>[.lit (.int .i64 0),.lit (.int .i64 0),.lit (.int .i64 z)].getD (0+xi) .top)] r:=by
 refine Di func71 rfl ?_
 exact Au 21 (gs (Aw (Gx 10 1 δ) ·) (Au 5 (Mj (r:= .int 1) rfl)))
theorem Zt (z:Int) (hz:0<=z/\z<=1048576):AF Tryz.prog 71 [.lit (.agg #[.int .i64 10,.int .i64 10,.int .i64 0]),.lit (.int .i64 0),.elt 3 (λxi=>[.lit (.int .i64 0),.lit (.int .i64 0),.lit (.int .i64 z)].getD (0+xi) .top)] (.int 1):=by
 obtain⟨_,rfl,hA⟩:=kW z hz
 exact hA
theorem kX (z:Int) (_:0<=z/\z<=1048576):∃r,r=AV.int 1/\AF Tryz.prog 71 [.lit (.agg #[.int .i64 10,.int .i64 10,.int .i64 0]),.lit (.int .i64 1),.elt 3 (λxi=>[.lit (.int .i64 0),.lit (.int .i64 0),.lit (.int .i64 z)].getD (0+xi) .top)] r:=by
 refine Di func71 rfl ?_
 exact Au 23 (gs (Aw (Gx 10 1 δ) ·) (Au 4 (Mj (r:= .int 1) rfl)))
theorem Zu (z:Int) (hz:0<=z/\z<=1048576):AF Tryz.prog 71 [.lit (.agg #[.int .i64 10,.int .i64 10,.int .i64 0]),.lit (.int .i64 1),.elt 3 (λxi=>[.lit (.int .i64 0),.lit (.int .i64 0),.lit (.int .i64 z)].getD (0+xi) .top)] (.int 1):=by
 obtain⟨_,rfl,hA⟩:=kX z hz
 exact hA
theorem qZ (z:Int) (hz:0<=z/\z<=1048576):∃r,r=AV.int 1/\AF Tryz.prog 69 [.lit (.agg #[.int .i64 (-10),.int .i64 10,.int .i64 0]),.lit (.agg #[.int .i64 (-10),.int .i64 (-10),.int .i64 0]),.elt 3 (λxi=>[.lit (.int .i64 0),.lit (.int .i64 0),.lit (.int .i64 z)].getD (0+xi) .top)] r:=by
 refine Di func69 rfl ?_
 exact Au 12 (gs (Aw (Rv ⟨-10,10,0⟩ ⟨-10,-10,0⟩ z 1 ⟨hz.1,ω⟩ δ) ·) (Au 4 (Mj (r:= .int 1) rfl)))
theorem wT (z:Int) (hz:0<=z/\z<=1048576):AF Tryz.prog 69 [.lit (.agg #[.int .i64 (-10),.int .i64 10,.int .i64 0]),.lit (.agg #[.int .i64 (-10),.int .i64 (-10),.int .i64 0]),.elt 3 (λxi=>[.lit (.int .i64 0),.lit (.int .i64 0),.lit (.int .i64 z)].getD (0+xi) .top)] (.int 1):=by
 obtain⟨_,rfl,hA⟩:=qZ z hz
 exact hA
theorem kY (z:Int) (_:0<=z/\z<=1048576):∃r,r=AV.int (-1)/\AF Tryz.prog 71 [.lit (.agg #[.int .i64 (-10),.int .i64 10,.int .i64 0]),.lit (.int .i64 0),.elt 3 (λxi=>[.lit (.int .i64 0),.lit (.int .i64 0),.lit (.int .i64 z)].getD (0+xi) .top)] r:=by
 refine Di func71 rfl ?_
 exact Au 21 (gs (Aw (Gx (-10) (-1) δ) ·) (Au 5 (Mj (r:= .int (-1)) rfl)))
theorem Zv (z:Int) (hz:0<=z/\z<=1048576):AF Tryz.prog 71 [.lit (.agg #[.int .i64 (-10),.int .i64 10,.int .i64 0]),.lit (.int .i64 0),.elt 3 (λxi=>[.lit (.int .i64 0),.lit (.int .i64 0),.lit (.int .i64 z)].getD (0+xi) .top)] (.int (-1)):=by
 obtain⟨_,rfl,hA⟩:=kY z hz
 exact hA
theorem kZ (z:Int) (_:0<=z/\z<=1048576):∃r,r=AV.int 1/\AF Tryz.prog 71 [.lit (.agg #[.int .i64 (-10),.int .i64 10,.int .i64 0]),.lit (.int .i64 1),.elt 3 (λxi=>[.lit (.int .i64 0),.lit (.int .i64 0),.lit (.int .i64 z)].getD (0+xi) .top)] r:=by
 refine Di func71 rfl ?_
 exact Au 23 (gs (Aw (Gx 10 1 δ) ·) (Au 4 (Mj (r:= .int 1) rfl)))
theorem Zw (z:Int) (hz:0<=z/\z<=1048576):AF Tryz.prog 71 [.lit (.agg #[.int .i64 (-10),.int .i64 10,.int .i64 0]),.lit (.int .i64 1),.elt 3 (λxi=>[.lit (.int .i64 0),.lit (.int .i64 0),.lit (.int .i64 z)].getD (0+xi) .top)] (.int 1):=by
 obtain⟨_,rfl,hA⟩:=kZ z hz
 exact hA
theorem wU (z:Int) (hz:0<=z/\z<=1048576):∃r,r=AV.int 1/\AF Tryz.prog 45 [Ny Nx,Fm (nE z)] r:=by
 refine Di func45 rfl ?_
 refine Au 6 (gs (eZ 0 ·) (Au 5 (tcl func68 (Au 17 (tcl func44 (Au 13 (trt (Au 3 (gs (vnm [4,5,6,7,16] ·) (AgO func67 λsp3 sp3p sp3a sp3b=>(Au 8 (gs (Qk 4 ·) (Au 14 (gs (Ob 0 4 ·) (Au 7 (gs (Fa [(6,Eb (Ny Nx) 1,.none)] [0,1,4,5,6,7,8] ⟨Nf 1 4,trivial⟩ ·) (Au 14 (Adu sp3p sp3a (Au 10 (Adt sp3b ?_))))))))))))))))))))
 refine Au 6 (gs (nZ (wQ z hz) ·) (Au 4 (gs (Fa [(2,_,.none),(5,_,.none),(8,_,.none),(11,_,.none)] [6,7,10,11,12,13,14] ⟨Mx (Zp z hz),Mx (Zq z hz),Mx (Zr z hz),Mx (Zs z hz),trivial⟩ ·) (Au 59 (tye (Au 26 (gs (Ob 1 4 ·) (Au 7 (gs (Fa [(6,Eb (Ny Nx) 2,.none)] [0,1,4,5,6,7,8] ⟨Nf 2 4,trivial⟩ ·) (Au 14 (Adu sp3p sp3a (Au 10 (Adt sp3b ?_)))))))))))))
 refine Au 6 (gs (nZ (wR z hz) ·) (Au 4 (gs (Fa [(2,_,.none),(5,_,.none),(8,_,.none),(11,_,.none)] [6,7,10,11,12,13,14] ⟨Mx (Zr z hz),Mx (Zs z hz),Mx (Zt z hz),Mx (Zu z hz),trivial⟩ ·) (Au 47 (tye (Au 26 (gs (Ob 2 4 ·) (Au 7 (gs (Fa [(6,Eb (Ny Nx) 3,.none)] [0,1,4,5,6,7,8] ⟨Nf 3 4,trivial⟩ ·) (Au 14 (Adu sp3p sp3a (Au 10 (Adt sp3b ?_)))))))))))))
 refine Au 6 (gs (nZ (wS z hz) ·) (Au 4 (gs (Fa [(2,_,.none),(5,_,.none),(8,_,.none),(11,_,.none)] [6,7,10,11,12,13,14] ⟨Mx (Zt z hz),Mx (Zu z hz),Mx (Zv z hz),Mx (Zw z hz),trivial⟩ ·) (Au 59 (tye (Au 26 (gs (Ob 3 4 ·) (Au 7 (gs (Fa [(6,Eb (Ny Nx) 0,.none)] [0,1,4,5,6,7,8] ⟨Nf 0 4,trivial⟩ ·) (Au 14 (Adu sp3p sp3a (Au 10 (Adt sp3b ?_)))))))))))))
 exact Au 6 (gs (nZ (wT z hz) ·) (Au 4 (gs (Fa [(2,_,.none),(5,_,.none),(8,_,.none),(11,_,.none)] [6,7,10,11,12,13,14] ⟨Mx (Zv z hz),Mx (Zw z hz),Mx (Zp z hz),Mx (Zq z hz),trivial⟩ ·) (Au 59 (tye (Au 23 (AgP (Au 17 (trt (Au 4 (Mj (r:= .int 1) rfl)))))))))))
theorem AbH (z:Int) (hz:0<=z/\z<=1048576):AF Tryz.prog 45 [Ny Nx,Fm (nE z)] (.int 1):=by
 obtain⟨_,rfl,hA⟩:=wU z hz
 exact hA
theorem xA (z:Int) (hz:0<=z/\z<=1048576):∃r,r=AV.int 1/\AF Tryz.prog 186 [Ny Nx,.elt 3 (λxi=>[.lit (.int .i64 0),.lit (.int .i64 0),.lit (.int .i64 z)].getD (0+xi) .top)] r:=by
 refine Di func186 rfl ?_
 exact Au 9 (gs (Aw (AbH z hz) ·) (Au 4 (Mj (r:= .int 1) rfl)))
theorem AbK (z:Int) (hz:0<=z/\z<=1048576):AF Tryz.prog 186 [Ny Nx,.elt 3 (λxi=>[.lit (.int .i64 0),.lit (.int .i64 0),.lit (.int .i64 z)].getD (0+xi) .top)] (.int 1):=by
 obtain⟨_,rfl,hA⟩:=xA z hz
 exact hA
theorem rG (h z:Int):∃r,r=AV.bool false/\AF Tryz.prog 197 [hsA (Dw h),.fn 198 [.elt 1 (λxi=>[.fn 186 [.elt 3 (λxi=>[.lit (.int .i64 0),.lit (.int .i64 0),.lit (.int .i64 z)].getD (0+xi) .top)]].getD (0+xi) .top)]] r:=by
 refine Di func197 rfl ?_
 exact Au 9 (tcl func228 (Au 14 (gs (Qk 0 ·) (Au 18 (trt (Au 5 (Mj (r:= .bool false) rfl)))))))
theorem wZ (h z:Int):AF Tryz.prog 197 [hsA (Dw h),.fn 198 [.elt 1 (λxi=>[.fn 186 [.elt 3 (λxi=>[.lit (.int .i64 0),.lit (.int .i64 0),.lit (.int .i64 z)].getD (0+xi) .top)]].getD (0+xi) .top)]] (.bool false):=by
 obtain⟨_,rfl,hA⟩:=rG h z
 exact hA
theorem xB (h z:Int) (hz:0<=z/\z<=h/\h<=1048576):∃r,r=AV.bool true/\AF Tryz.prog 151 [Sk (Dw h),.fn 186 [.elt 3 (λxi=>[.lit (.int .i64 0),.lit (.int .i64 0),.lit (.int .i64 z)].getD (0+xi) .top)]] r:=by
 refine Di func151 rfl ?_
 exact Au 7 (gs (eZ 1 ·) (Au 5 (gs (nZ (AbK z ⟨hz.1,ω⟩) ·) (Au 5 (gs (Aw (wZ h z) ·) (Au 6 (Mj (r:= .bool true) rfl)))))))
theorem AbL (h z:Int) (hz:0<=z/\z<=h/\h<=1048576):AF Tryz.prog 151 [Sk (Dw h),.fn 186 [.elt 3 (λxi=>[.lit (.int .i64 0),.lit (.int .i64 0),.lit (.int .i64 z)].getD (0+xi) .top)]] (.bool true):=by
 obtain⟨_,rfl,hA⟩:=xB h z hz
 exact hA
theorem cH (h z:Int) (hz:0<=z/\z<=h/\h<=1048576):∃r,r=AV.bool true/\AF Tryz.prog 137 [Sk (Dw h),Fm (nE z)] r:=by
 refine Di func137 rfl ?_
 refine Au 7 (gs (eZ 1 ·) (Au 8 (jZ 10 ((0:Int)<=z) (λhx1 hx1d=>?_) (λhx1 hx1d=>?_))))
 refine Au 7 (jZ 17 (z<=h) (λhx2 hx2d=>?_) (λhx2 hx2d=>?_))
 exact Au 2 (gs (Aw (AbL h z hz) ·) (Au 5 (Mj (r:= .bool true) rfl)))
 refine Au 8 ?_
 exact absurd hz ω
 refine Au 15 ?_
 exact absurd hz ω
theorem Ue (h z:Int) (hz:0<=z/\z<=h/\h<=1048576):AF Tryz.prog 137 [Sk (Dw h),Fm (nE z)] (.bool true):=by
 obtain⟨_,rfl,hA⟩:=cH h z hz
 exact hA
theorem lE (h z:Int) (hz:0<=z/\z<=h/\h<=1048576):∃r,r=AV.lit (.tuple #[.bool true,.int .i64 0])/\AF Tryz.prog 108 [Sk (Dw h),Fm (nE z),Fm (nE z)] r:=by
 refine Di func108 rfl ?_
 exact Au 13 (gs (Aw (Mq h ⟨ω,hz.2.2⟩) ·) (Au 3 (gs (Aw (aB z ⟨hz.1,ω⟩) ·) (Au 4 (gs (Aw (aB z ⟨hz.1,ω⟩) ·) (Au 12 (gs (Aw (Ue h z hz) ·) (Au 4 (gs (Aw (Ue h z hz) ·) (Au 33 (Mj (r:= .lit (.tuple #[.bool true,.int .i64 0])) rfl)))))))))))
theorem Gy (h z:Int) (hz:0<=z/\z<=h/\h<=1048576):AF Tryz.prog 108 [Sk (Dw h),Fm (nE z),Fm (nE z)] (.lit (.tuple #[.bool true,.int .i64 0])):=by
 obtain⟨_,rfl,hA⟩:=lE h z hz
 exact hA
theorem rF (h z w:Int) (hz:0<=z/\z<=w/\w<=h/\h<=1048576):∃r,r=AV.bool true/\AF Tryz.prog 82 [bxA (bxZ z w),Sk (Dw h)] r:=by
 refine Di func82 rfl ?_
 refine Au 17 (jZ 17 (z<0) (λhx1 hx1d=>?_) (λhx1 hx1d=>?_))
 refine Au 17 ?_
 exact absurd hz ω
 refine Au 9 (jZ 24 (h<w) (λhx2 hx2d=>?_) (λhx2 hx2d=>?_))
 refine Au 8 ?_
 exact absurd hz ω
 exact Au 13 (gs (Qk 0 ·) (Au 15 (gs (Aw (Wb (bxZ z w)) ·) (Au 11 (gs (Qk 4 ·) (Au 18 (gs (Fa [(2,.ptr 2 0,.none),(7,.ptr 2 3,.none),(9,_,.none)] [3,7,9,39] ⟨Bc (Ai 185 (.tmp 7) (.tmp 44) κ underlying185 2 0 3 0 0 κ κ sizeOf59 δ ω δ),Bc (Ai 185 (.tmp 7) (.tmp 49) κ underlying185 2 0 3 1 1 κ κ sizeOf59 δ ω δ),Cx (Gy h z ⟨hz.1,ω⟩),trivial⟩ ·) (Au 34 (gs (Fa [(2,.ptr 2 3,.none),(7,.ptr 2 6,.none),(9,_,.none)] [3,7,9,39] ⟨Bc (Ai 185 (.tmp 7) (.tmp 44) κ underlying185 2 0 3 1 1 κ κ sizeOf59 δ ω δ),Bc (Ai 185 (.tmp 7) (.tmp 49) κ underlying185 2 0 3 2 2 κ κ sizeOf59 δ ω δ),Cx (Gy h z ⟨hz.1,ω⟩),trivial⟩ ·) (Au 34 (gs (Fa [(2,.ptr 2 6,.none),(7,.ptr 2 9,.none),(9,_,.none)] [3,7,9,39] ⟨Bc (Ai 185 (.tmp 7) (.tmp 44) κ underlying185 2 0 3 2 2 κ κ sizeOf59 δ ω δ),Bc (Ai 185 (.tmp 7) (.tmp 49) κ underlying185 2 0 3 3 3 κ κ sizeOf59 δ ω δ),Cx (Gy h z ⟨hz.1,ω⟩),trivial⟩ ·) (Au 34 (gs (Fa [(2,.ptr 2 9,.none),(7,.ptr 2 0,.none),(9,_,.none)] [3,7,9,39] ⟨Bc (Ai 185 (.tmp 7) (.tmp 44) κ underlying185 2 0 3 3 3 κ κ sizeOf59 δ ω δ),Bc (Ai 185 (.tmp 7) (.tmp 49) κ underlying185 2 0 3 0 0 κ κ sizeOf59 δ ω δ),Cx (Gy h z ⟨hz.1,ω⟩),trivial⟩ ·) (Au 34 (Mj (r:= .bool true) rfl)))))))))))))))
theorem wX (h z w:Int) (hz:0<=z/\z<=w/\w<=h/\h<=1048576):AF Tryz.prog 82 [bxA (bxZ z w),Sk (Dw h)] (.bool true):=by
 obtain⟨_,rfl,hA⟩:=rF h z w hz
 exact hA
theorem rE (h z w:Int) (hz:0<=z/\z<=h/\h<w):∃r,r=AV.bool false/\AF Tryz.prog 82 [bxA (bxZ z w),Sk (Dw h)] r:=by
 refine Di func82 rfl ?_
 refine Au 17 (jZ 17 (z<0) (λhx1 hx1d=>?_) (λhx1 hx1d=>?_))
 exact Au 17 (Mj (r:= .bool false) rfl)
 refine Au 9 (jZ 24 (h<w) (λhx2 hx2d=>?_) (λhx2 hx2d=>?_))
 exact Au 8 (Mj (r:= .bool false) rfl)
 refine Au 13 (gs (Qk 0 ·) (Au 15 (gs (Aw (Wb (bxZ z w)) ·) (Au 11 (gs (Qk 4 ·) (Au 18 (gs (Fa [(2,.ptr 2 0,.none),(7,.ptr 2 3,.none),(9,_,.none)] [3,7,9,39] ⟨Bc (Ai 185 (.tmp 7) (.tmp 44) κ underlying185 2 0 3 0 0 κ κ sizeOf59 δ ω δ),Bc (Ai 185 (.tmp 7) (.tmp 49) κ underlying185 2 0 3 1 1 κ κ sizeOf59 δ ω δ),Cx (Gy h z ⟨hz.1,ω⟩),trivial⟩ ·) (Au 34 (gs (Fa [(2,.ptr 2 3,.none),(7,.ptr 2 6,.none),(9,_,.none)] [3,7,9,39] ⟨Bc (Ai 185 (.tmp 7) (.tmp 44) κ underlying185 2 0 3 1 1 κ κ sizeOf59 δ ω δ),Bc (Ai 185 (.tmp 7) (.tmp 49) κ underlying185 2 0 3 2 2 κ κ sizeOf59 δ ω δ),Cx (Gy h z ⟨hz.1,ω⟩),trivial⟩ ·) (Au 34 (gs (Fa [(2,.ptr 2 6,.none),(7,.ptr 2 9,.none),(9,_,.none)] [3,7,9,39] ⟨Bc (Ai 185 (.tmp 7) (.tmp 44) κ underlying185 2 0 3 2 2 κ κ sizeOf59 δ ω δ),Bc (Ai 185 (.tmp 7) (.tmp 49) κ underlying185 2 0 3 3 3 κ κ sizeOf59 δ ω δ),Cx (Gy h z ⟨hz.1,ω⟩),trivial⟩ ·) (Au 34 (gs (Fa [(2,.ptr 2 9,.none),(7,.ptr 2 0,.none),(9,_,.none)] [3,7,9,39] ⟨Bc (Ai 185 (.tmp 7) (.tmp 44) κ underlying185 2 0 3 3 3 κ κ sizeOf59 δ ω δ),Bc (Ai 185 (.tmp 7) (.tmp 49) κ underlying185 2 0 3 0 0 κ κ sizeOf59 δ ω δ),Cx (Gy h z ⟨hz.1,ω⟩),trivial⟩ ·) (Au 34 ?_))))))))))))))
 exact absurd hz ω
theorem Oe (h z w:Int) (hz:0<=z/\z<=h/\h<w):AF Tryz.prog 82 [bxA (bxZ z w),Sk (Dw h)] (.bool false):=by
 obtain⟨_,rfl,hA⟩:=rE h z w hz
 exact hA
def CB (s:Sg) (d k:Nat) (z w:Int):Prop:=(0<s.o/\s.o<=9223372036854775807)/\lP s.x s.o d k/\lP s.y s.o d k/\lP s.z s.o d k/\Af6 s d k=bxZ z w
theorem Py (s:Sg) (d k:Nat) (z w:Int) (h:CB s d k z w):AF Tryz.prog 81 [Pm s,.int (d:Int),.int (k:Int)] (bxA (bxZ z w)):=by
 rw[<-h.2.2.2.2]
 exact rA s d k h.1 h.2.1 h.2.2.1 h.2.2.2.1
theorem Af9 (s:Sg) (d k:Nat) (z w h:Int) (m:Nat) (hb:CB s d k z w) (hz:0<=z/\z<=w/\w<=h/\h<=1048576) (_:d<=8):∃r,r=AV.bool true/\AF Tryz.prog 80 [.int (d:Int),.int (k:Int),Fz s,Oc (Dw h),Qi s (Dw h) (m+1)] r:=by
 refine Di func80 rfl ?_
 exact Au 6 (gs (Fa [(3,_,.none),(5,_,.none)] [7] ⟨Cx (Py s d k z w hb),Cx (wX h z w hz),trivial⟩ ·) (Au 2 (Mj (r:= .bool true) rfl)))
theorem sD (s:Sg) (d k:Nat) (z w h:Int) (m:Nat) (hb:CB s d k z w) (hz:0<=z/\z<=w/\w<=h/\h<=1048576) (hd:d<=8):AF Tryz.prog 80 [.int (d:Int),.int (k:Int),Fz s,Oc (Dw h),Qi s (Dw h) (m+1)] (.bool true):=by
 obtain⟨_,rfl,hA⟩:=Af9 s d k z w h m hb hz hd
 exact hA
theorem Af7 (s:Sg) (k:Nat) (z w h:Int) (m:Nat) (hb:CB s 8 k z w) (hz:0<=z/\z<=h/\h<w):∃r,r=AV.bool false/\AF Tryz.prog 80 [.int ((8:Nat):Int),.int (k:Int),Fz s,Oc (Dw h),Qi s (Dw h) (m+1)] r:=by
 refine Di func80 rfl ?_
 exact Au 6 (gs (Fa [(3,_,.none),(5,_,.none)] [7] ⟨Cx (Py s 8 k z w hb),Cx (Oe h z w hz),trivial⟩ ·) (Au 2 (Mj (r:= .bool false) rfl)))
theorem Ag6 (s:Sg) (k:Nat) (z w h:Int) (m:Nat) (hb:CB s 8 k z w) (hz:0<=z/\z<=h/\h<w):AF Tryz.prog 80 [.int ((8:Nat):Int),.int (k:Int),Fz s,Oc (Dw h),Qi s (Dw h) (m+1)] (.bool false):=by
 obtain⟨_,rfl,hA⟩:=Af7 s k z w h m hb hz
 exact hA
theorem Af8 (s:Sg) (d k:Nat) (z w h:Int) (m:Nat) (hb:CB s d k z w) (hz:0<=z/\z<=h/\h<w) (hd:d<8/\k<256) (hl:AF Tryz.prog 80 [.int ((d+1):Int),.int ((2*k):Int),Fz s,Oc (Dw h),Qi s (Dw h) m] (.bool false)):∃r,r=AV.bool false/\AF Tryz.prog 80 [.int (d:Int),.int (k:Int),Fz s,Oc (Dw h),Qi s (Dw h) (m+1)] r:=by
 refine Di func80 rfl ?_
 refine Au 6 (vsp ((d:Int)<8) (λhx1 hx1d=>?_) (λhx1 hx1d=>?_))
 exact gs (Fa [(3,_,.none),(5,_,.none),(8,.bool true,.none),(12,.int ((d+1:Nat):Int),.none),(14,.int ((2*k:Nat):Int),.none),(15,_,.none)] [7] ⟨Cx (Py s d k z w hb),Cx (Oe h z w hz),kbD hx1,Bc (Cg (v:= .int .i64 (IntKind.wrap .i64 ((d:Int)+1))) (v':= .int .i64 ((d+1:Nat):Int)) _ κ rfl κ (λw=>by kernel_rfl) (congrArg (Value.int .i64) ((IntWalk.i64_in _ ω).trans ω))),Bc (Cg (v:= .int .i64 (IntKind.wrap .i64 (2*(k:Int)))) (v':= .int .i64 ((2*k:Nat):Int)) _ κ rfl κ (λw=>by kernel_rfl) (congrArg (Value.int .i64) ((IntWalk.i64_in _ ω).trans ω))),Mx hl,trivial⟩ ·) (Au 2 (Mj (r:= .bool false) rfl))
 exact gs (Fa [(3,_,.none),(5,_,.none),(8,.bool false,.none)] [7] ⟨Cx (Py s d k z w hb),Cx (Oe h z w hz),kbD hx1,trivial⟩ ·) (Au 2 (Mj (r:= .bool false) rfl))
theorem Acj (s:Sg) (d k:Nat) (z w h:Int) (m:Nat) (hb:CB s d k z w) (hz:0<=z/\z<=h/\h<w) (hd:d<8/\k<256) (hl:AF Tryz.prog 80 [.int ((d+1):Int),.int ((2*k):Int),Fz s,Oc (Dw h),Qi s (Dw h) m] (.bool false)):AF Tryz.prog 80 [.int (d:Int),.int (k:Int),Fz s,Oc (Dw h),Qi s (Dw h) (m+1)] (.bool false):=by
 obtain⟨_,rfl,hA⟩:=Af8 s d k z w h m hb hz hd hl
 exact hA
theorem Aeh (s:Sg) (d k:Nat) (z w h:Int) (m:Nat) (hb:CB s d k z w) (hz:0<=z/\z<=h/\h<w) (hd:d<8/\k<256) (hl:AF Tryz.prog 80 [.int ((d+1):Int),.int ((2*k):Int),Fz s,Oc (Dw h),Qi s (Dw h) m] (.bool true)) (hr:AF Tryz.prog 80 [.int ((d+1):Int),.int ((2*k+1):Int),Fz s,Oc (Dw h),Qi s (Dw h) m] (.bool false)):∃r,r=AV.bool false/\AF Tryz.prog 80 [.int (d:Int),.int (k:Int),Fz s,Oc (Dw h),Qi s (Dw h) (m+1)] r:=by
 refine Di func80 rfl ?_
 refine Au 6 (vsp ((d:Int)<8) (λhx1 hx1d=>?_) (λhx1 hx1d=>?_))
 exact gs (Fa [(3,_,.none),(5,_,.none),(8,.bool true,.none),(12,.int ((d+1:Nat):Int),.none),(14,.int ((2*k:Nat):Int),.none),(15,_,.none),(20,.int ((d+1:Nat):Int),.none),(22,.int ((2*k:Nat):Int),.none),(23,.int ((2*k+1:Nat):Int),.none),(24,_,.none)] [7] ⟨Cx (Py s d k z w hb),Cx (Oe h z w hz),kbD hx1,Bc (Cg (v:= .int .i64 (IntKind.wrap .i64 ((d:Int)+1))) (v':= .int .i64 ((d+1:Nat):Int)) _ κ rfl κ (λw=>by kernel_rfl) (congrArg (Value.int .i64) ((IntWalk.i64_in _ ω).trans ω))),Bc (Cg (v:= .int .i64 (IntKind.wrap .i64 (2*(k:Int)))) (v':= .int .i64 ((2*k:Nat):Int)) _ κ rfl κ (λw=>by kernel_rfl) (congrArg (Value.int .i64) ((IntWalk.i64_in _ ω).trans ω))),Mx hl,Bc (Cg (v:= .int .i64 (IntKind.wrap .i64 ((d:Int)+1))) (v':= .int .i64 ((d+1:Nat):Int)) _ κ rfl κ (λw=>by kernel_rfl) (congrArg (Value.int .i64) ((IntWalk.i64_in _ ω).trans ω))),Bc (Cg (v:= .int .i64 (IntKind.wrap .i64 (2*(k:Int)))) (v':= .int .i64 ((2*k:Nat):Int)) _ κ rfl κ (λw=>by kernel_rfl) (congrArg (Value.int .i64) ((IntWalk.i64_in _ ω).trans ω))),Bc (Cg (v:= .int .i64 (IntKind.wrap .i64 (((2*k:Nat):Int)+1))) (v':= .int .i64 ((2*k+1:Nat):Int)) _ κ rfl κ (λw=>by kernel_rfl) (congrArg (Value.int .i64) ((IntWalk.i64_in _ ω).trans ω))),Mx hr,trivial⟩ ·) (Au 2 (Mj (r:= .bool false) rfl))
 exact gs (Fa [(3,_,.none),(5,_,.none),(8,.bool false,.none)] [7] ⟨Cx (Py s d k z w hb),Cx (Oe h z w hz),kbD hx1,trivial⟩ ·) (Au 2 (Mj (r:= .bool false) rfl))
theorem pA (s:Sg) (d k:Nat) (z w h:Int) (m:Nat) (hb:CB s d k z w) (hz:0<=z/\z<=h/\h<w) (hd:d<8/\k<256) (hl:AF Tryz.prog 80 [.int ((d+1):Int),.int ((2*k):Int),Fz s,Oc (Dw h),Qi s (Dw h) m] (.bool true)) (hr:AF Tryz.prog 80 [.int ((d+1):Int),.int ((2*k+1):Int),Fz s,Oc (Dw h),Qi s (Dw h) m] (.bool false)):AF Tryz.prog 80 [.int (d:Int),.int (k:Int),Fz s,Oc (Dw h),Qi s (Dw h) (m+1)] (.bool false):=by
 obtain⟨_,rfl,hA⟩:=Aeh s d k z w h m hb hz hd hl hr
 exact hA
theorem Acl (s:Sg) (h:Int) (hc:AF Tryz.prog 80 [.int 0,.int 0,Fz s,Oc (Dw h),Qi s (Dw h) 9] (.bool true)):∃r,r=AV.bool true/\AF Tryz.prog 54 [Sk (Dw h),Pm s] r:=by
 refine Di func54 rfl ?_
 exact Au 12 (gs (eZ 0 ·) (gs (eZ 1 ·) (Au 6 (gs (Agc 2 80 (Fz s) (Oc (Dw h)) 10 ·) (Au 3 (gs (nZ hc ·) (Au 4 (Mj (r:= .bool true) rfl))))))))
theorem Zy (s:Sg) (h:Int) (hc:AF Tryz.prog 80 [.int 0,.int 0,Fz s,Oc (Dw h),Qi s (Dw h) 9] (.bool true)):AF Tryz.prog 54 [Sk (Dw h),Pm s] (.bool true):=by
 obtain⟨_,rfl,hA⟩:=Acl s h hc
 exact hA
theorem Ack (s:Sg) (h:Int) (hc:AF Tryz.prog 80 [.int 0,.int 0,Fz s,Oc (Dw h),Qi s (Dw h) 9] (.bool false)):∃r,r=AV.bool false/\AF Tryz.prog 54 [Sk (Dw h),Pm s] r:=by
 refine Di func54 rfl ?_
 exact Au 12 (gs (eZ 0 ·) (gs (eZ 1 ·) (Au 6 (gs (Agc 2 80 (Fz s) (Oc (Dw h)) 10 ·) (Au 3 (gs (nZ hc ·) (Au 4 (Mj (r:= .bool false) rfl))))))))
theorem rB (s:Sg) (h:Int) (hc:AF Tryz.prog 80 [.int 0,.int 0,Fz s,Oc (Dw h),Qi s (Dw h) 9] (.bool false)):AF Tryz.prog 54 [Sk (Dw h),Pm s] (.bool false):=by
 obtain⟨_,rfl,hA⟩:=Ack s h hc
 exact hA
def Hg:Sg:=⟨0,1000,1,[0],[0],[0,0,0,5000,-7500,3000]⟩
def sgH:Sg:=⟨1000,2000,1,[0],[0],[500]⟩
def upL:List Sg:=[Hg,sgH]
theorem Gp {l:List Int} (h:l.all (λc=>decide (Dd c))=true):∀i,Dd (l.getD i 0):=by
 intro i
 rw[List.getD_eq_getElem?_getD]
 rcases Nat.lt_or_ge i l.length with g|g
 rw[List.getElem?_eq_getElem g]
 exact of_decide_eq_true (List.all_eq_true.1 h _ (List.getElem_mem g))
 rw[List.getElem?_eq_none g]
 exact Aao
def axB (l:List Int) (o:Int) (d k:Nat) (z w:Int):Bool:=decide (0<l.length/\l.length<=6)&&(l.all (λc=>decide (Dd c))&&(decide (d<=8/\k<2^d)&&(decide (-9223372036854775807<=w/\w<=9223372036854775807)&&(decide (Ub l o d k=z)&&decide (Jc l o d k= -w)))))
theorem Mw {l:List Int} {o:Int} {d k:Nat} {z w:Int} (h:axB l o d k z w=true):lP l o d k/\Ub l o d k=z/\-Jc l o d k=w:=by
 simp only[axB,Bool.and_eq_true,decide_eq_true_eq] at h
 obtain⟨h1,h2,h3,h4,h5,h6⟩:=h
 refine⟨⟨⟨h1.1,h1.2,Gp h2,h3.1,h3.2⟩,?_,?_⟩,h5,?_⟩<;>rw[h6]<;>omega
theorem Ju (s:Sg) (d k:Nat) (z w:Int) (h:(decide (0<s.o/\s.o<=9223372036854775807)&&(axB s.x s.o d k 0 0&&(axB s.y s.o d k 0 0&&axB s.z s.o d k z w)))=true):CB s d k z w:=by
 simp only[Bool.and_eq_true,decide_eq_true_eq] at h
 obtain⟨h1,h2,h3,h4⟩:=h
 refine⟨h1,(Mw h2).1,(Mw h3).1,(Mw h4).1,?_⟩
 show Bx.mk ⟨_,_,_⟩ ⟨_,_,_⟩=Bx.mk ⟨_,_,_⟩ ⟨_,_,_⟩
 rw[(Mw h2).2.1,(Mw h2).2.2,(Mw h3).2.1,(Mw h3).2.2,(Mw h4).2.1,(Mw h4).2.2]
theorem sQ:AF Tryz.prog 80 [.int ((0:Nat):Int),.int ((0:Nat):Int),Fz Hg,Oc (Dw 500),Qi Hg (Dw 500) 9] (.bool true):=sD Hg 0 0 0 500 500 8 (Ju Hg 0 0 0 500 (by decide+kernel)) δ δ
theorem sJ:AF Tryz.prog 80 [.int ((1:Nat):Int),.int ((0:Nat):Int),Fz Hg,Oc (Dw 499),Qi Hg (Dw 499) 8] (.bool true):=sD Hg 1 0 0 250 499 7 (Ju Hg 1 0 0 250 (by decide+kernel)) δ δ
theorem sM:AF Tryz.prog 80 [.int ((2:Nat):Int),.int ((2:Nat):Int),Fz Hg,Oc (Dw 499),Qi Hg (Dw 499) 7] (.bool true):=sD Hg 2 2 250 449 499 6 (Ju Hg 2 2 250 449 (by decide+kernel)) δ δ
theorem sO:AF Tryz.prog 80 [.int ((3:Nat):Int),.int ((6:Nat):Int),Fz Hg,Oc (Dw 499),Qi Hg (Dw 499) 6] (.bool true):=sD Hg 3 6 448 492 499 5 (Ju Hg 3 6 448 492 (by decide+kernel)) δ δ
theorem lZ:AF Tryz.prog 80 [.int ((4:Nat):Int),.int ((14:Nat):Int),Fz Hg,Oc (Dw 499),Qi Hg (Dw 499) 5] (.bool true):=sD Hg 4 14 491 499 499 4 (Ju Hg 4 14 491 499 (by decide+kernel)) δ δ
theorem gR:AF Tryz.prog 80 [.int ((8:Nat):Int),.int ((240:Nat):Int),Fz Hg,Oc (Dw 499),Qi Hg (Dw 499) 1] (.bool false):=Ag6 Hg 240 498 500 499 0 (Ju Hg 8 240 498 500 (by decide+kernel)) δ
theorem gQ:AF Tryz.prog 80 [.int ((7:Nat):Int),.int ((120:Nat):Int),Fz Hg,Oc (Dw 499),Qi Hg (Dw 499) 2] (.bool false):=Acj Hg 7 120 498 500 499 1 (Ju Hg 7 120 498 500 (by decide+kernel)) δ δ gR
theorem mC:AF Tryz.prog 80 [.int ((6:Nat):Int),.int ((60:Nat):Int),Fz Hg,Oc (Dw 499),Qi Hg (Dw 499) 3] (.bool false):=Acj Hg 6 60 498 500 499 2 (Ju Hg 6 60 498 500 (by decide+kernel)) δ δ gQ
theorem mB:AF Tryz.prog 80 [.int ((5:Nat):Int),.int ((30:Nat):Int),Fz Hg,Oc (Dw 499),Qi Hg (Dw 499) 4] (.bool false):=Acj Hg 5 30 498 500 499 3 (Ju Hg 5 30 498 500 (by decide+kernel)) δ δ mC
theorem mA:AF Tryz.prog 80 [.int ((4:Nat):Int),.int ((15:Nat):Int),Fz Hg,Oc (Dw 499),Qi Hg (Dw 499) 5] (.bool false):=Acj Hg 4 15 498 500 499 4 (Ju Hg 4 15 498 500 (by decide+kernel)) δ δ mB
theorem sP:AF Tryz.prog 80 [.int ((3:Nat):Int),.int ((7:Nat):Int),Fz Hg,Oc (Dw 499),Qi Hg (Dw 499) 6] (.bool false):=pA Hg 3 7 491 500 499 5 (Ju Hg 3 7 491 500 (by decide+kernel)) δ δ lZ mA
theorem sN:AF Tryz.prog 80 [.int ((2:Nat):Int),.int ((3:Nat):Int),Fz Hg,Oc (Dw 499),Qi Hg (Dw 499) 7] (.bool false):=pA Hg 2 3 448 500 499 6 (Ju Hg 2 3 448 500 (by decide+kernel)) δ δ sO sP
theorem sK:AF Tryz.prog 80 [.int ((1:Nat):Int),.int ((1:Nat):Int),Fz Hg,Oc (Dw 499),Qi Hg (Dw 499) 8] (.bool false):=pA Hg 1 1 250 500 499 7 (Ju Hg 1 1 250 500 (by decide+kernel)) δ δ sM sN
theorem sI:AF Tryz.prog 80 [.int ((0:Nat):Int),.int ((0:Nat):Int),Fz Hg,Oc (Dw 499),Qi Hg (Dw 499) 9] (.bool false):=pA Hg 0 0 0 500 499 8 (Ju Hg 0 0 0 500 (by decide+kernel)) δ δ sJ sK
theorem cxh:AF Tryz.prog 80 [.int ((0:Nat):Int),.int ((0:Nat):Int),Fz sgH,Oc (Dw 500),Qi sgH (Dw 500) 9] (.bool true):=sD sgH 0 0 500 500 500 8 (Ju sgH 0 0 500 500 (by decide+kernel)) δ δ
theorem Aeg:AF Tryz.prog 54 [Sk (Dw 500),Pm Hg] (.bool true):=Zy Hg 500 sQ
theorem Aee:AF Tryz.prog 54 [Sk (Dw 500),Pm sgH] (.bool true):=Zy sgH 500 cxh
theorem Aef:AF Tryz.prog 54 [Sk (Dw 499),Pm Hg] (.bool false):=rB Hg 499 sI
theorem AeP:Yv Hg:=⟨δ,δ,δ,Gp δ,Gp δ,Gp δ⟩
theorem AeO:Yv sgH:=⟨δ,δ,δ,Gp δ,Gp δ,Gp δ⟩
theorem AeX:yL upL:=⟨δ,λi=>by
 match i with
 |0=>exact AeP
 |1=>exact AeO
 |i+2=>exact show Yv Sg.none from⟨δ,δ,δ,Gp (l:=[]) rfl,Gp (l:=[]) rfl,Gp (l:=[]) rfl⟩⟩
theorem AeY:Wp upL:=by decide+kernel
theorem xR:AF Tryz.prog 51 [Hs upL] (.bool true):=by
 have h:=cM upL AeX
 rwa [show bP (Wp upL)=true by unfold bP;exact @decide_eq_true _ (Classical.propDecidable _) AeY] at h
theorem tB:∃r,r=AV.lit (.tuple #[.int .i64 0,.bool false,.int .i64 0])/\AF Tryz.prog 30 [Sk (Dw 500),Hs upL] r:=by
 refine Di func30 rfl ?_
 exact Au 12 (gs (Aw (Mq 500 δ) ·) (Au 3 (gs (Aw xR ·) (Au 7 (gs (eZ 0 ·) (Au 4 (tcl func52 (Au 14 (gs (Qk 2 ·) (Au 22 (gs (Ob 0 2 ·) (Au 1 (AeV func53 (Au 10 (gs (Aw Aeg ·) (Au 5 (trt (Au 33 (gs (Ob 1 2 ·) (Au 1 (AeV func53 (Au 10 (gs (Aw Aee ·) (Au 5 (trt (Au 29 (trt (Au 6 (gs (Bb (.int (max 0 (-1))) .none (Ni (.const (.int .i64 0)) (.tmp 19) #[3,3] κ 0 (-1) κ κ) ·) (Au 8 (Mj (r:= .lit (.tuple #[.int .i64 0,.bool false,.int .i64 0])) rfl)))))))))))))))))))))))))))))))
theorem Aae:AF Tryz.prog 30 [Sk (Dw 500),Hs upL] (.lit (.tuple #[.int .i64 0,.bool false,.int .i64 0])):=by
 obtain⟨_,rfl,hA⟩:=tB
 exact hA
theorem iL:∃r,r=AV.lit (.tuple #[.bool true,.int .i64 0])/\AF Tryz.prog 20 [Sk (Dw 500),Hs upL] r:=by
 refine Di func20 rfl ?_
 exact Au 11 (gs (Aw Aae ·) (Au 23 (Mj (r:= .lit (.tuple #[.bool true,.int .i64 0])) rfl)))
theorem mS:AF Tryz.prog 20 [Sk (Dw 500),Hs upL] (.lit (.tuple #[.bool true,.int .i64 0])):=by
 obtain⟨_,rfl,hA⟩:=iL
 exact hA
theorem tA:∃r,r=AV.lit (.tuple #[.int .i64 0,.bool true,.int .i64 0])/\AF Tryz.prog 30 [Sk (Dw 499),Hs upL] r:=by
 refine Di func30 rfl ?_
 exact Au 12 (gs (Aw (Mq 499 δ) ·) (Au 3 (gs (Aw xR ·) (Au 7 (gs (eZ 0 ·) (Au 4 (tcl func52 (Au 14 (gs (Qk 1 ·) (Au 22 (gs (Ob 0 2 ·) (Au 1 (AeV func53 (Au 10 (gs (Aw Aef ·) (Au 5 (trt (Au 15 (trt (Au 6 (gs (Bb (.int (max 0 0)) .none (Ni (.const (.int .i64 0)) (.tmp 19) #[3,3] κ 0 0 κ κ) ·) (Au 8 (Mj (r:= .lit (.tuple #[.int .i64 0,.bool true,.int .i64 0])) rfl)))))))))))))))))))))))
theorem Aad:AF Tryz.prog 30 [Sk (Dw 499),Hs upL] (.lit (.tuple #[.int .i64 0,.bool true,.int .i64 0])):=by
 obtain⟨_,rfl,hA⟩:=tA
 exact hA
theorem iK:∃r,r=AV.lit (.tuple #[.bool false,.int .i64 0])/\AF Tryz.prog 20 [Sk (Dw 499),Hs upL] r:=by
 refine Di func20 rfl ?_
 exact Au 11 (gs (Aw Aad ·) (Au 23 (Mj (r:= .lit (.tuple #[.bool false,.int .i64 0])) rfl)))
theorem mR:AF Tryz.prog 20 [Sk (Dw 499),Hs upL] (.lit (.tuple #[.bool false,.int .i64 0])):=by
 obtain⟨_,rfl,hA⟩:=iK
 exact hA
def Qj:Pr:=⟨[⟨#[97]⟩],[⟨0,0,0⟩],[⟨⟨#[117,112]⟩,2000,[⟨⟨0,0,500⟩,0,1000,0⟩]⟩]⟩
theorem nX:yM Qj:=⟨δ,δ,δ,δ,δ⟩
theorem Ud:Ff Qj=true:=by decide+kernel
theorem kD:Ri Qj 1 0=upL:=by kernel_rfl
theorem Adw:Iq Qj.acts 1=2000:=by decide
theorem cL (p:Pr) (hp:yM p) (h:Ff p=true) (hk:0<p.acts.length):AF Tryz.prog 19 [Mc p] (.tup [.sl 1 p.names.length λi=>Hs (Ri p p.acts.length i),.int 0]):=by
 have ho:=kG h
 refine As func19 rfl λB D0 hA0=>?_
 exact Ab 12 (Aw (Mn p hp) (Ab 4 (Lj 4 (!Ff p) false (by rw[h];rfl) (Ab 7 (Lj 12 (decide ((p.acts.length:Int)=0)) false (decide_eq_false ω) (Ab 10 (Aw (AdP p hp ho) (Ab 5 (Cy)))))))))
abbrev pmA (h:Int):AV:= .agg [Ny (Dw h).o,hsA (Dw h),.int 0,.int h,.int 1000,.int 3000,.int 1]
abbrev Gq (k:Int) (_:Nat):AV:= .lit (.agg #[.int .i64 k,.int .i64 0])
theorem Mp:AF Tryz.prog 17 [Mc Qj] (.bool true):=by
 have h:=Mn Qj nX
 rwa [Ud] at h
theorem Rx:AF Tryz.prog 18 [Mc Qj] (.lit (.tuple #[.int .i64 2000,.int .i64 0])):=by
 have h:=rH Qj nX Ud
 rw[show Iq Qj.acts Qj.acts.length=2000 from Adw] at h
 exact h
theorem Mo:AF Tryz.prog 19 [Mc Qj] (.tup [.sl 1 1 λi=>Hs (Ri Qj 1 i),.int 0]):=cL Qj nX Ud δ
theorem Aet:AF Tryz.prog 20 [Sk (Dw 500),Hs (Ri Qj 1 0)] (.lit (.tuple #[.bool true,.int .i64 0])):=by
 have h:=mS
 rw[<-kD] at h
 exact h
theorem Ag9:AF Tryz.prog 20 [Sk (Dw 499),Hs (Ri Qj 1 0)] (.lit (.tuple #[.bool false,.int .i64 0])):=by
 have h:=mR
 rw[<-kD] at h
 exact h
theorem Ml (h:Int) (hh:0<=h/\h<=1048576):AF Tryz.prog 16 [pmA h] (.bool true):=by
 refine As func16 rfl λB D0 hA0=>?_
 exact Ab 10 (Aw (Mq h hh) (Ab 5 (Cn (.int .i64 2999) (.int .i64 2999) (Aw (Of 1000 0 2999 δ) (Ab 4 (Aw (Of 3000 1 86400000 δ) (Ab 4 (Aw (Of 1 1 64 δ) (Ab 5 (Cy))))))))))
theorem Aew:AF Tryz.prog 10 [pmA 500,Mc Qj,.int 1000] (.lit (.tuple #[.slice none 0 0,.int .i64 0])):=by
 refine As func10 rfl λB D0 hA0=>?_
 exact Ab 14 (Aw (Ml 500 δ) (Ab 8 (Aw Mp (Ab 7 (Aw (Of 1000 0 86400000 δ) (Ab 21 (Aw Rx (Ab 27 (Cn (.int .i64 3000) (.int .i64 3000) (Ab 8 (Qk 4 (Ab 14 (Cn (.bool false) (.bool false) (Ab 14 (Cn (.int .i64 1) (.int .i64 1) (Ab 17 (Cn (.bool false) (.bool false) (Ab 14 (Cn (.int .i64 2) (.int .i64 2) (Ab 17 (Cn (.bool false) (.bool false) (Ab 14 (Cn (.int .i64 3) (.int .i64 3) (Ab 17 (Cn (.bool false) (.bool false) (Ab 14 (Cn (.int .i64 4) (.int .i64 4) (Ab 18 (Aw Mo (Ab 16 (Qk 1 (Ab 14 (Ob 0 1 (Ab 10 (Aw Aet (Ab 22 (Cn (.int .i64 1) (.int .i64 1) (Ab 23 (Cy)))))))))))))))))))))))))))))))))))))))
theorem Aex:AF Tryz.prog 10 [pmA 500,Mc Qj,.int 999] (.tup [.sl 2 1 (Gq 2),.int 0]):=by
 refine As func10 rfl λB D0 hA0=>?_
 exact Ab 14 (Aw (Ml 500 δ) (Ab 8 (Aw Mp (Ab 7 (Aw (Of 999 0 86400000 δ) (Ab 21 (Aw Rx (Ab 27 (Cn (.int .i64 2999) (.int .i64 2999) (Ab 8 (Qk 4 (Ab 14 (Cn (.bool false) (.bool false) (Ab 14 (Cn (.int .i64 1) (.int .i64 1) (Ab 17 (Cn (.bool false) (.bool false) (Ab 14 (Cn (.int .i64 2) (.int .i64 2) (Ab 17 (Cn (.bool true) (.bool true) (Ab 14 (Bb (.osl 2 2 1) (.new 2 (.vec 49 2 1 (λ_=> .lit (.agg #[.int .i64 2,.int .i64 0])))) (Al 43 1 #[(0,(.tmp 63))] κ underlying43 2 sizeOf49 _ zeroValue49 κ β β β 2 [.int 2,.int 0] κ (λ_=> .lit (.agg #[.int .i64 2,.int .i64 0])) κ) (Bb (.osl 3 2 1) (.newr 2 3 (.vec 49 2 1 (λ_=> .lit (.agg #[.int .i64 2,.int .i64 0])))) (Fl (.tmp 61) (.tmp 64) 43 κ underlying43 2 16 (.agg #[.int .i64 0,.int .i64 0]) κ κ δ 1 ω (λ_=> .lit (.agg #[.int .i64 2,.int .i64 0])) (λ_=> .lit (.agg #[.int .i64 2,.int .i64 0])) 3 (λi hi=>rfl) (λi hi j hj=>match j,hj with|0,_=>rfl|1,_=>rfl|_+2,h=>absurd h ω) (by unfold maxLen;omega) ω κ 2 49 κ κ) (Ab 5 (Cn (.int .i64 3) (.int .i64 3) (Ab 17 (Cn (.bool false) (.bool false) (Ab 14 (Cn (.int .i64 4) (.int .i64 4) (Ab 18 (Aw Mo (Ab 16 (Qk 1 (Ab 14 (Ob 0 1 (Ab 10 (Aw Aet (Ab 22 (Cn (.int .i64 1) (.int .i64 1) (Ab 22 (Ab0 3 [6] 49 2 1 (λ_=> .lit (.agg #[.int .i64 2,.int .i64 0])) (Ro λ_ _=>rfl) (Ab 1 (Cy))))))))))))))))))))))))))))))))))))))))))))
theorem Aey:AF Tryz.prog 10 [pmA 500,Mc Qj,.int 1001] (.tup [.sl 2 1 (Gq 3),.int 0]):=by
 refine As func10 rfl λB D0 hA0=>?_
 exact Ab 14 (Aw (Ml 500 δ) (Ab 8 (Aw Mp (Ab 7 (Aw (Of 1001 0 86400000 δ) (Ab 21 (Aw Rx (Ab 27 (Cn (.int .i64 3001) (.int .i64 3001) (Ab 8 (Qk 4 (Ab 14 (Cn (.bool false) (.bool false) (Ab 14 (Cn (.int .i64 1) (.int .i64 1) (Ab 17 (Cn (.bool false) (.bool false) (Ab 14 (Cn (.int .i64 2) (.int .i64 2) (Ab 17 (Cn (.bool false) (.bool false) (Ab 14 (Cn (.int .i64 3) (.int .i64 3) (Ab 17 (Cn (.bool true) (.bool true) (Ab 14 (Bb (.osl 2 2 1) (.new 2 (.vec 49 2 1 (λ_=> .lit (.agg #[.int .i64 3,.int .i64 0])))) (Al 43 1 #[(0,(.tmp 63))] κ underlying43 2 sizeOf49 _ zeroValue49 κ β β β 2 [.int 3,.int 0] κ (λ_=> .lit (.agg #[.int .i64 3,.int .i64 0])) κ) (Bb (.osl 3 2 1) (.newr 2 3 (.vec 49 2 1 (λ_=> .lit (.agg #[.int .i64 3,.int .i64 0])))) (Fl (.tmp 61) (.tmp 64) 43 κ underlying43 2 16 (.agg #[.int .i64 0,.int .i64 0]) κ κ δ 1 ω (λ_=> .lit (.agg #[.int .i64 3,.int .i64 0])) (λ_=> .lit (.agg #[.int .i64 3,.int .i64 0])) 3 (λi hi=>rfl) (λi hi j hj=>match j,hj with|0,_=>rfl|1,_=>rfl|_+2,h=>absurd h ω) (by unfold maxLen;omega) ω κ 2 49 κ κ) (Ab 5 (Cn (.int .i64 4) (.int .i64 4) (Ab 18 (Aw Mo (Ab 16 (Qk 1 (Ab 14 (Ob 0 1 (Ab 10 (Aw Aet (Ab 22 (Cn (.int .i64 1) (.int .i64 1) (Ab 22 (Ab0 3 [6] 49 2 1 (λ_=> .lit (.agg #[.int .i64 3,.int .i64 0])) (Ro λ_ _=>rfl) (Ab 1 (Cy))))))))))))))))))))))))))))))))))))))))))))
theorem Aez:AF Tryz.prog 10 [pmA 499,Mc Qj,.int 1000] (.tup [.sl 2 1 (Gq 4),.int 0]):=by
 refine As func10 rfl λB D0 hA0=>?_
 exact Ab 14 (Aw (Ml 499 δ) (Ab 8 (Aw Mp (Ab 7 (Aw (Of 1000 0 86400000 δ) (Ab 21 (Aw Rx (Ab 27 (Cn (.int .i64 3000) (.int .i64 3000) (Ab 8 (Qk 4 (Ab 14 (Cn (.bool false) (.bool false) (Ab 14 (Cn (.int .i64 1) (.int .i64 1) (Ab 17 (Cn (.bool false) (.bool false) (Ab 14 (Cn (.int .i64 2) (.int .i64 2) (Ab 17 (Cn (.bool false) (.bool false) (Ab 14 (Cn (.int .i64 3) (.int .i64 3) (Ab 17 (Cn (.bool false) (.bool false) (Ab 14 (Cn (.int .i64 4) (.int .i64 4) (Ab 18 (Aw Mo (Ab 16 (Qk 1 (Ab 14 (Ob 0 1 (Ab 10 (Aw Ag9 (Ab 22 (Bb (.osl 2 2 1) (.new 2 (.vec 49 2 1 (λ_=> .lit (.agg #[.int .i64 4,.int .i64 0])))) (Al 43 1 #[(0,(.tmp 94))] κ underlying43 2 sizeOf49 _ zeroValue49 κ β β β 2 [.int 4,.int 0] κ (λ_=> .lit (.agg #[.int .i64 4,.int .i64 0])) κ) (Bb (.osl 3 2 1) (.newr 2 3 (.vec 49 2 1 (λ_=> .lit (.agg #[.int .i64 4,.int .i64 0])))) (Fl (.tmp 92) (.tmp 95) 43 κ underlying43 2 16 (.agg #[.int .i64 0,.int .i64 0]) κ κ δ 1 ω (λ_=> .lit (.agg #[.int .i64 4,.int .i64 0])) (λ_=> .lit (.agg #[.int .i64 4,.int .i64 0])) 3 (λi hi=>rfl) (λi hi j hj=>match j,hj with|0,_=>rfl|1,_=>rfl|_+2,h=>absurd h ω) (by unfold maxLen;omega) ω κ 2 49 κ κ) (Ab 5 (Cn (.int .i64 1) (.int .i64 1) (Ab 22 (Ab0 3 [6] 49 2 1 (λ_=> .lit (.agg #[.int .i64 4,.int .i64 0])) (Ro λ_ _=>rfl) (Ab 1 (Cy))))))))))))))))))))))))))))))))))))))))))))
def Bv.setT (c:Bv) (d:Nat) (V:AV):Bv:=⟨c.m,c.k,⟨(d,V)::c.s.t,c.s.h,c.s.nx,c.s.n⟩⟩
theorem AgW {P:Program} {R:Option Nat} {B:Nat} {D0:Aq} {Q:Exit->St->Prop} {c:Bv} (d:Nat) (V0 V:AV) (h:∀(E:Aq) (v:Value),VR E V0 v->VR E V v) (hk:Go P R B D0 Q (c.setT d V)) (hd:Bo c.s.t d=V0:=by kernel_rfl):Go P R B D0 Q c:=
 Fv ⟨(d,V)::c.s.t,c.s.h,c.s.nx,c.s.n⟩ (λE a hs=>⟨E,rfl,hs.size,hs.df,λi=>by
  show VR E (Bo ((d,V)::c.s.t) i) _
  rw[Fq]
  by_cases hi:d=i
  subst hi
  rw[if_pos rfl]
  have h1:=hs.t d
  rw[hd] at h1
  exact h _ _ h1
  rw[if_neg hi];exact hs.t i,hs.h,hs.A⟩) hk
theorem Ab1 (x y z:AV) (e:Nat) (f:Nat->AV) (E:Aq) (v:Value) (h:VR E (.agg [x,.lit (.slice none 0 0),y,z]) v):VR E (.agg [x,.sl e 0 f,y,z]) v:=by
 cases h with
 |agg _ _ vs hn hr=>
  refine .agg _ _ vs hn λi hi=>?_
  match i,hi with
  |0,_=>exact hr 0 (by simp)
  |1,_=>
   have h1:=hr 1 (by simp)
   have h2:vs.getD 1 undef= .slice none 0 0:=h1.lit_inv
   rw[h2]
   exact .sl0 _ _ _ _ _
  |2,_=>exact hr 2 (by simp)
  |3,_=>exact hr 3 (by simp)
theorem Aen (w:World):(Op.equal 49 (.agg #[.int .i64 2,.int .i64 0]) (.agg #[.int .i64 2,.int .i64 0])).run Tryz.prog w= .ok true w:=by kernel_rfl
theorem Aba:AF Tryz.prog 11 [.sl 2 1 (Gq 2),.sl 2 1 (Gq 2)] (.bool true):=by
 refine As func11 rfl λB D0 hA0=>?_
 exact Ab 25 (Qk 1 (Ab 15 (Fa [(2,Eb (.sl 2 1 (Gq 2)) 0,.none),(6,Eb (.sl 2 1 (Gq 2)) 0,.none),(8,.bool false,.none)] [0,1,5,25] ⟨Nf 0 1,Nf 0 1,Bc (Lg (eC 49 49 (.tmp 20) (.tmp 24) κ _ _ κ κ κ true Aen) (show (!(true):Bool)=false from rfl)),trivial⟩ (Ab 7 (Cn (.int .i64 1) (.int .i64 1) (Ab 24 (Cy)))))))
theorem Aeo (w:World):(Op.equal 49 (.agg #[.int .i64 3,.int .i64 0]) (.agg #[.int .i64 3,.int .i64 0])).run Tryz.prog w= .ok true w:=by kernel_rfl
theorem Abb:AF Tryz.prog 11 [.sl 2 1 (Gq 3),.sl 2 1 (Gq 3)] (.bool true):=by
 refine As func11 rfl λB D0 hA0=>?_
 exact Ab 25 (Qk 1 (Ab 15 (Fa [(2,Eb (.sl 2 1 (Gq 3)) 0,.none),(6,Eb (.sl 2 1 (Gq 3)) 0,.none),(8,.bool false,.none)] [0,1,5,25] ⟨Nf 0 1,Nf 0 1,Bc (Lg (eC 49 49 (.tmp 20) (.tmp 24) κ _ _ κ κ κ true Aeo) (show (!(true):Bool)=false from rfl)),trivial⟩ (Ab 7 (Cn (.int .i64 1) (.int .i64 1) (Ab 24 (Cy)))))))
theorem Aep (w:World):(Op.equal 49 (.agg #[.int .i64 4,.int .i64 0]) (.agg #[.int .i64 4,.int .i64 0])).run Tryz.prog w= .ok true w:=by kernel_rfl
theorem Abc:AF Tryz.prog 11 [.sl 2 1 (Gq 4),.sl 2 1 (Gq 4)] (.bool true):=by
 refine As func11 rfl λB D0 hA0=>?_
 exact Ab 25 (Qk 1 (Ab 15 (Fa [(2,Eb (.sl 2 1 (Gq 4)) 0,.none),(6,Eb (.sl 2 1 (Gq 4)) 0,.none),(8,.bool false,.none)] [0,1,5,25] ⟨Nf 0 1,Nf 0 1,Bc (Lg (eC 49 49 (.tmp 20) (.tmp 24) κ _ _ κ κ κ true Aep) (show (!(true):Bool)=false from rfl)),trivial⟩ (Ab 7 (Cn (.int .i64 1) (.int .i64 1) (Ab 24 (Cy)))))))
theorem cG:AF Tryz.prog 9 [] (.tup [Mc Qj,pmA 500]):=by
 refine As func9 rfl λB D0 hA0=>?_
 refine Ab 8 (Bb (.osl 2 1 1) (.new 2 (.vec 9 1 1 (λxi=> .lit (.string (Qj.names.getD xi ByteArray.empty))))) (Al 31 1 #[(0,(.const (.string ⟨#[97]⟩)))] κ underlying31 1 sizeOf9 _ zeroValue9 κ β β β 2 [.lit (.string ⟨#[97]⟩)] κ (λxi=> .lit (.string (Qj.names.getD xi ByteArray.empty))) κ) (Ab 1 (Bb (.osl 3 3 1) (.new 3 (.vec 59 3 1 (λxi=>Fm (Qj.homes.getD xi V3.zero)))) (Al 32 1 #[(0,(.tmp 5))] κ underlying32 3 sizeOf59 _ zeroValue59 κ β β β 3 [.int 0,.int 0,.int 0] κ (λxi=>Fm (Qj.homes.getD xi V3.zero)) κ) (Ab 2 (Bb (.osl 4 6 1) (.new 4 (.vec 61 6 1 (λxi=>mvA ((Qj.acts.getD 0 Ac.none).moves.getD xi Mv.none)))) (Al 62 1 #[(0,(.tmp 8))] κ underlying62 6 sizeOf61 _ zeroValue61 κ β β β 4 [.int 0,.int 0,.int 500,.int 0,.int 1000,.int 0] κ (λxi=>mvA ((Qj.acts.getD 0 Ac.none).moves.getD xi Mv.none)) κ) (Ab0 4 [9] 61 6 1 (λxi=>mvA ((Qj.acts.getD 0 Ac.none).moves.getD xi Mv.none)) (Ro λ_ _=>rfl) (Ab 1 (Bb (.osl 5 3 1) (.new 5 (.vec 64 3 1 (λxi=>AbX (Qj.acts.getD xi Ac.none)))) (Al 33 1 #[(0,(.tmp 10))] κ underlying33 3 sizeOf64 _ zeroValue64 κ β β β 5 [.lit (.string ⟨#[117,112]⟩),.int 2000,.sl 6 1 (λxi=>mvA ((Qj.acts.getD 0 Ac.none).moves.getD xi Mv.none))] κ (λxi=>AbX (Qj.acts.getD xi Ac.none)) κ) (Ab 5 (Adz 2 6 0 9 1 1 (λxi=> .lit (.string (Qj.names.getD xi ByteArray.empty))) (Ro λ_ _=>rfl) (Adz 3 6 1 59 3 1 (λxi=>Fm (Qj.homes.getD xi V3.zero)) (Ro λ_ _=>rfl) (Adz 5 6 2 64 3 1 (λxi=>AbX (Qj.acts.getD xi Ac.none)) (Ro λ_ _=>rfl) (Ab 6 (Bb (.osl 7 3 4) (.new 7 (.vec 59 3 4 (λxi=>Fm (Nx.f xi)))) (Al 32 4 #[(0,(.tmp 13)),(1,(.tmp 14)),(2,(.tmp 15)),(3,(.tmp 16))] κ underlying32 3 sizeOf59 _ zeroValue59 κ β β β 7 [.int (-10),.int (-10),.int 0,.int 10,.int (-10),.int 0,.int 10,.int 10,.int 0,.int (-10),.int 10,.int 0] κ (λxi=>Fm (Nx.f xi)) κ) (Ab 1 (AgW 18 (.agg [.osl 7 3 4,.lit (.slice none 0 0),.int 0,.int 500]) (.agg [.osl 7 3 4,hsA (Dw 500),.int 0,.int 500]) (Ab1 _ _ _ _ _) ?_))))))))))))))))
 exact Ab 4 (Adz 7 8 0 59 3 4 (λxi=>Fm (Nx.f xi)) (Ro λ_ _=>rfl) (Ab 1 (Fa [] [0,1] trivial (Ab 2 (Cy)))))
end Go.Proofs.YthhkfanbmpcmbaaGreatDoor
namespace Go.Proofs.YthhkfanbmpcmbaaGreatDoor
open Go.Proofs.Tryz
open Go.RowKit
theorem AbE:Zn La Tryz.prog 5 [.int 3723004] (.lit (.tuple #[.string ⟨#[48,49,58,48,50,58,48,51,46,48,48,52]⟩,.int .i64 0])):=by
 have h:=Js 3723004 δ
 rw[sE] at h
 exact h
theorem AbF:Zn La Tryz.prog 5 [.int 86400000] (.lit (.tuple #[.string ⟨#[50,52,58,48,48,58,48,48,46,48,48,48]⟩,.int .i64 0])):=by
 have h:=Js 86400000 δ
 rw[sF] at h
 exact h
theorem AaO:Hq ⟨#[50,52,58,48,48,58,48,48,46,48,48,49]⟩=none:=by decide+kernel
theorem Od {s:ByteArray} (h:Hq s=none):Zn La Tryz.prog 8 [.lit (.string s)] Yw:=by
 have h2:=Zo s
 rwa [<-Sy h] at h2
theorem Ql {s:ByteArray} {n:Nat} (h:Hq s=some n):Zn La Tryz.prog 8 [.lit (.string s)] (.lit (.tuple #[.int .i64 (n:Int),.int .i64 0])):=by
 have h2:=Zo s
 unfold Hr at h2
 rwa [h] at h2
theorem Ve {t:Int} (h:0<=t/\t<=86400000):AF Tryz.prog 6 [.int t] (.bool true):=by
 have h2:=fJ t
 rwa [decide_eq_true h] at h2
theorem oH {t:Int} (h:¬(0<=t/\t<=86400000)):AF Tryz.prog 6 [.int t] (.bool false):=by
 have h2:=fJ t
 rwa [decide_eq_false h] at h2
theorem Fh:Zn La Tryz.prog 4 [] (.bool true):=by
 refine Pa Hc func4 rfl λB D0 hA0 hT=>?_
 refine Ab 7 (Aw cG (Ab 13 (Aw Aew (Ab 11 (Aw Aex (Ab 11 (Aw Aey (Ab 18 (Aw Aez (Ab 32 (Bb (.osl 2 2 1) (.new 2 (.vec 49 2 1 (λ_=> .lit (.agg #[.int .i64 2,.int .i64 0])))) (Al 43 1 #[(0,(.tmp 64))] κ underlying43 2 sizeOf49 _ zeroValue49 κ β β β 2 [.int 2,.int 0] κ (λ_=> .lit (.agg #[.int .i64 2,.int .i64 0])) κ) (Bb (.bool true) (.read 2) (Qd 11 #[.tmp 63,.tmp 65] #[43,43] κ (λ_ _=>by kernel_rfl) 2 (.vec 49 2 1 (λ_=> .lit (.agg #[.int .i64 2,.int .i64 0]))) κ (λ_ _ _ _ h=>by cases h;exact(Ro λ_ _=>rfl)) [.sl 2 1 (Gq 2),.osl 2 2 1] κ [.sl 2 1 (Gq 2),.sl 2 1 (λ_=> .lit (.agg #[.int .i64 2,.int .i64 0]))] κ (.bool true) Aba) (Ab 5 (Bb (.osl 3 2 1) (.new 3 (.vec 49 2 1 (λ_=> .lit (.agg #[.int .i64 3,.int .i64 0])))) (Al 43 1 #[(0,(.tmp 71))] κ underlying43 2 sizeOf49 _ zeroValue49 κ β β β 3 [.int 3,.int 0] κ (λ_=> .lit (.agg #[.int .i64 3,.int .i64 0])) κ) (Bb (.bool true) (.read 3) (Qd 11 #[.tmp 70,.tmp 72] #[43,43] κ (λ_ _=>by kernel_rfl) 3 (.vec 49 2 1 (λ_=> .lit (.agg #[.int .i64 3,.int .i64 0]))) κ (λ_ _ _ _ h=>by cases h;exact(Ro λ_ _=>rfl)) [.sl 2 1 (Gq 3),.osl 3 2 1] κ [.sl 2 1 (Gq 3),.sl 2 1 (λ_=> .lit (.agg #[.int .i64 3,.int .i64 0]))] κ (.bool true) Abb) (Ab 5 (Bb (.osl 4 2 1) (.new 4 (.vec 49 2 1 (λ_=> .lit (.agg #[.int .i64 4,.int .i64 0])))) (Al 43 1 #[(0,(.tmp 78))] κ underlying43 2 sizeOf49 _ zeroValue49 κ β β β 4 [.int 4,.int 0] κ (λ_=> .lit (.agg #[.int .i64 4,.int .i64 0])) κ) (Bb (.bool true) (.read 4) (Qd 11 #[.tmp 77,.tmp 79] #[43,43] κ (λ_ _=>by kernel_rfl) 4 (.vec 49 2 1 (λ_=> .lit (.agg #[.int .i64 4,.int .i64 0]))) κ (λ_ _ _ _ h=>by cases h;exact(Ro λ_ _=>rfl)) [.sl 2 1 (Gq 4),.osl 4 2 1] κ [.sl 2 1 (Gq 4),.sl 2 1 (λ_=> .lit (.agg #[.int .i64 4,.int .i64 0]))] κ (.bool true) Abc) (Ab 9 (Kg hT AbE ?_))))))))))))))))))))
 refine Ab 9 (Kg hT AbF ?_)
 refine Ab 9 (Kg hT (Od AaO) ?_)
 refine Ab 16 (Cn (.bool ((⟨#[48,49,58,48,50,58,48,51,46,48,48,52]⟩:ByteArray).toList==(⟨#[48,49,58,48,50,58,48,51,46,48,48,52]⟩:ByteArray).toList)) (.bool true) ?_ (congrArg Value.bool (beq_self_eq_true _)))
 refine Ab 3 (Cn (.bool ((⟨#[50,52,58,48,48,58,48,48,46,48,48,48]⟩:ByteArray).toList==(⟨#[50,52,58,48,48,58,48,48,46,48,48,48]⟩:ByteArray).toList)) (.bool true) ?_ (congrArg Value.bool (beq_self_eq_true _)))
 exact Ab 9 (Cy)
theorem Tj (t:Int) (s:ByteArray):Zn La Tryz.prog 3 [.int t,.lit (.string s)] (.bool true):=by
 by_cases ht:0<=t/\t<=86400000
 ·
  skip
  obtain⟨d,rfl⟩:∃d:Nat,t=(d:Int):=⟨t.toNat,ω⟩
  cases hp:Hq s with
  |none=>
   refine Pa Hc func3 rfl λB D0 hA0 hT=>?_
   refine Ab 9 (Cn (.int .i64 (ByteArray.size s:Int)) (.int .i64 (ByteArray.size s:Int)) (Ab 3 (Mf 11 ((20:Int)<(ByteArray.size s:Int)) (λhx1 hx1d=>?_) (λhx1 hx1d=>?_))))
   ·
    refine Ab 3 (Kg hT Fh ?_)
    exact Ab 5 (Cy)
   ·
    refine Ab 6 (Kg hT (Js d ω) ?_)
    refine Ab 11 (Aw (Ve (t:=(d:Int)) ω) (Ab 8 (Aw (Mk d ω) (Cn (.bool (!((BS (Fr d):ByteArray).toList==(BS (Fr d):ByteArray).toList))) (.bool false) ?_ (congrArg (λb=>Value.bool (!b)) (beq_self_eq_true _))))))
    refine Ab 12 (Kg hT (Od hp) ?_)
    refine Ab 24 (Kg hT Fh ?_)
    exact Ab 6 (Cy)
  |some n=>
   have hn:=(Kv hp).1
   refine Pa Hc func3 rfl λB D0 hA0 hT=>?_
   refine Ab 9 (Cn (.int .i64 (ByteArray.size s:Int)) (.int .i64 (ByteArray.size s:Int)) (Ab 3 (Mf 11 ((20:Int)<(ByteArray.size s:Int)) (λhx1 hx1d=>?_) (λhx1 hx1d=>?_))))
   ·
    refine Ab 3 (Kg hT Fh ?_)
    exact Ab 5 (Cy)
   ·
    refine Ab 6 (Kg hT (Js d ω) ?_)
    refine Ab 11 (Aw (Ve (t:=(d:Int)) ω) (Ab 8 (Aw (Mk d ω) (Cn (.bool (!((BS (Fr d):ByteArray).toList==(BS (Fr d):ByteArray).toList))) (.bool false) ?_ (congrArg (λb=>Value.bool (!b)) (beq_self_eq_true _))))))
    refine Ab 12 (Kg hT (Ql hp) ?_)
    refine Ab 20 (Aw (Ve (t:=(n:Int)) ω) (Ab 2 (Aw (Mk n ω) (Ab 1 (Cn (.bool ((BS (Fr n):ByteArray).toList==(s:ByteArray).toList)) (.bool true) ?_ (congrArg Value.bool (by rw[(Kv hp).2];exact beq_self_eq_true _)))))))
    refine Ab 2 (Kg hT Fh ?_)
    exact Ab 5 (Cy)
 ·
  skip
  cases hp:Hq s with
  |none=>
   refine Pa Hc func3 rfl λB D0 hA0 hT=>?_
   refine Ab 9 (Cn (.int .i64 (ByteArray.size s:Int)) (.int .i64 (ByteArray.size s:Int)) (Ab 3 (Mf 11 ((20:Int)<(ByteArray.size s:Int)) (λhx1 hx1d=>?_) (λhx1 hx1d=>?_))))
   ·
    refine Ab 3 (Kg hT Fh ?_)
    exact Ab 5 (Cy)
   ·
    refine Ab 6 (Aw (Tk t ht) (Ab 11 (Aw (oH ht) (Ab 7 (Cn (.bool (!((⟨#[]⟩:ByteArray).toList==(⟨#[]⟩:ByteArray).toList))) (.bool false) ?_ (congrArg (λb=>Value.bool (!b)) (beq_self_eq_true _)))))))
    refine Ab 12 (Kg hT (Od hp) ?_)
    refine Ab 24 (Kg hT Fh ?_)
    exact Ab 6 (Cy)
  |some n=>
   have hn:=(Kv hp).1
   refine Pa Hc func3 rfl λB D0 hA0 hT=>?_
   refine Ab 9 (Cn (.int .i64 (ByteArray.size s:Int)) (.int .i64 (ByteArray.size s:Int)) (Ab 3 (Mf 11 ((20:Int)<(ByteArray.size s:Int)) (λhx1 hx1d=>?_) (λhx1 hx1d=>?_))))
   ·
    refine Ab 3 (Kg hT Fh ?_)
    exact Ab 5 (Cy)
   ·
    refine Ab 6 (Aw (Tk t ht) (Ab 11 (Aw (oH ht) (Ab 7 (Cn (.bool (!((⟨#[]⟩:ByteArray).toList==(⟨#[]⟩:ByteArray).toList))) (.bool false) ?_ (congrArg (λb=>Value.bool (!b)) (beq_self_eq_true _)))))))
    refine Ab 12 (Kg hT (Ql hp) ?_)
    refine Ab 20 (Aw (Ve (t:=(n:Int)) ω) (Ab 2 (Aw (Mk n ω) (Ab 1 (Cn (.bool ((BS (Fr n):ByteArray).toList==(s:ByteArray).toList)) (.bool true) ?_ (congrArg Value.bool (by rw[(Kv hp).2];exact beq_self_eq_true _)))))))
    refine Ab 2 (Kg hT Fh ?_)
    exact Ab 5 (Cy)
end Go.Proofs.YthhkfanbmpcmbaaGreatDoor