/- Part 27 of the proof of PF.card_holds: no condition beyond the row's. -/
import Derived.Test.YtihcpmmopejpoaaGreatDoorPF26
import Derived.Lib.AppendIntMem
set_option maxRecDepth 100000
set_option maxHeartbeats 40000000
namespace Go.Proofs.YtihcpmmopejpoaaGreatDoor
open Go.Proofs.Tryz
open Go.RowKit
def AfH (w:World):Prop:=Lib.TabIs Tryz.prog w "internal/strconv.uint64pow10" .u64 Lib.pow10Tab
def AfB (w:World):Prop:=(∃t p,w.var? Tryz.prog "strconv.ErrSyntax"=some #[.iface t p])/\∃t p,w.var? Tryz.prog "strconv.ErrRange"=some #[.iface t p]
theorem iL {w w':World} {n:String} {cs:Array Value} (h:w.var? Tryz.prog n=some cs) (hb:∀b,b<w.heap.size->w'.heap[b]?=w.heap[b]?):w'.var? Tryz.prog n=some cs:=by
 unfold World.var? at*
 cases hg:Tryz.prog.globalNamed n with
 |none=>rw[hg] at h;cases h
 |some g=>
  rw[hg] at h
  simp only[Option.bind_some] at h ⊢
  cases hc:w.heap[g]? with
  |none=>rw[hc] at h;cases h
  |some o=>rw[hb g (Ξ hc).1,hc];rw[hc] at h;exact h
def Qo (E:Ar):Prop:=∃W:World,AfH W/\AfB W/\∀b,b<W.heap.size->E.D b/\E.w.heap[b]?=W.heap[b]?
theorem Ks:Pt Qo:=⟨λhle ⟨W,h1,h2,h3⟩=>⟨W,h1,h2,λb hb=>⟨hle.D b (h3 b hb).1,(hle.blk b (h3 b hb).1).trans (h3 b hb).2⟩⟩,λh=>h,λh=>h⟩
theorem Qo.at {E:Ar} (h:Qo E):AfH E.w/\AfB E.w:=by
 obtain⟨W,h1,⟨⟨t1,p1,e1⟩,t2,p2,e2⟩,h3⟩:=h
 have hb:=λb hb=>(h3 b hb).2
 exact⟨iL h1 hb,⟨t1,p1,iL e1 hb⟩,t2,p2,iL e2 hb⟩
theorem Ajf {f:FuncId} {vs:List Value} {v:Value} (h:∀w,AfH w->AfB w->Calls Tryz.prog f vs.toArray w λe w'=>e= .returned v/\Below w.heap.size w w'):mP Qo Tryz.prog f (vs.map .lit) (.lit v):=AlX λE us hT hD hn hv=>by
 have:us=vs.toArray:=VR.lits (E:=E.fz) (by simpa using hn) (VR.tops hv)
 subst this
 refine(h E.w hT.at.1 hT.at.2).mono ?_
 rintro e w' ⟨rfl,hb⟩
 exact⟨v,rfl,hb,λE' _ _ _=> .lit _ _⟩
theorem AeM (n:Nat) (h:n<=9223372036854775807):mP Qo Tryz.prog 41 [.int (n:Int)] (SA (Lib.decDigits n)):=Ajf (vs:=[.int .i64 n]) λw hT _=>(Tryz.strconv_Itoa n ω ω w hT).mono λe w' ⟨he,k,os,hw⟩=>⟨by rw[he,Ahd],by rw[hw];exact Lib.below_grow _ w ζ k os⟩
theorem bJ (x:UInt8):∀c,Lib.repeatL [x] c=List.replicate c x
 |0=>rfl
 |c+1=>by rw[Lib.repeatL,bJ x c];rfl
theorem Ajz (c:Nat) (h:c<=100):AF Tryz.prog 42 [.lit (.string ⟨#[48]⟩),.int (max 0 (c:Int))] (SA (List.replicate c 48)):=by
 rw[Int.max_eq_right ω]
 exact mU (vs:=[.string ⟨#[48]⟩,.int .i64 c]) λw=>(Tryz.strings_Repeat ⟨#[48]⟩ c w ω (by show 1*c<=_;omega)).mono λe w' ⟨he,hb⟩=>⟨by rw[he,show (⟨#[48]⟩:ByteArray).data.toList=[48] from rfl,bJ],hb⟩
theorem Aar (n d:Nat) (hn:n<=9223372036854775807) (hd:d<=3) (hl:(Lib.decDigits n).length<=d):mP Qo Tryz.prog 29 [.int (n:Int),.int (d:Int)] (SA (AhL n d)):=by
 have hsz:ByteArray.size (BS (Lib.decDigits n))=(Lib.decDigits n).length:=rfl
 refine Wm Ks func29 rfl λB D0 hA0 hT=>?_
 refine Ae 8 (Su hT (AeM n hn) ?_)
 exact Ae 7 (Cz (.int .i64 (ByteArray.size (BS (Lib.decDigits n)):Int)) (.int .i64 (ByteArray.size (BS (Lib.decDigits n)):Int)) (Cv ((d:Int)-(ByteArray.size (BS (Lib.decDigits n)):Int)) ((d-ByteArray.size (BS (Lib.decDigits n)):Nat):Int) (Cu (.int (max 0 ((d-ByteArray.size (BS (Lib.decDigits n)):Nat):Int))) .none (Jl (.const (.int .i64 0)) (.tmp 11) #[3,3] κ 0 ((d-ByteArray.size (BS (Lib.decDigits n)):Nat):Int) κ κ) (Ao (Ajz (d-ByteArray.size (BS (Lib.decDigits n))) ω) (Ae 1 (Cu (.lit (.string (BS ((List.replicate (d-ByteArray.size (BS (Lib.decDigits n))) 48)++(Lib.decDigits n))))) .none (Sc 9 9 (.tmp 13) (.tmp 14) (List.replicate (d-ByteArray.size (BS (Lib.decDigits n))) 48) (Lib.decDigits n) κ κ κ (by rw[List.length_replicate];omega)) (Ae 4 (Ck))))))))
theorem rX {n:Nat} (h:n<100):(Lib.decDigits n).length<=2:=by
 rcases Nat.lt_or_ge n 10 with g|g
 rw[On g,El];decide
 rw[Oo g h,El];decide
theorem Agn {n:Nat} (h:n<1000):(Lib.decDigits n).length<=3:=by
 rcases Nat.lt_or_ge n 100 with g|g
 exact Nat.le_trans (rX g) δ
 rw[aY g h,El];decide
theorem dR (n:Nat) (h:n<100):mP Qo Tryz.prog 29 [.int (n:Int),.int 2] (SA (Cg n 2)):=by
 have:=Aar n 2 ω ω (rX h)
 rw[Anu h] at this
 exact this
theorem AeN (n:Nat) (h:n<1000):mP Qo Tryz.prog 29 [.int (n:Int),.int 3] (SA (Cg n 3)):=by
 have:=Aar n 3 ω ω (Agn h)
 rw[Anv h] at this
 exact this
theorem kq (t m:Nat) (k:Int) (hk:k=(m:Int)) (ht:t<=9223372036854775807):Value.int .i64 (IntKind.wrap .i64 (Int.tdiv (t:Int) k))= .int .i64 ((t/m:Nat):Int):=by
 subst hk
 rw[<-Int.ofNat_tdiv]
 have:=Nat.div_le_self t m
 generalize t/m=q at*
 exact congrArg (Value.int .i64) (IntWalk.i64_in _ ω)
theorem kr (t m:Nat) (k:Int) (hk:k=(m:Int)):Value.int .i64 (Int.tmod (t:Int) k)= .int .i64 ((t%m:Nat):Int):=by
 subst hk
 rw[<-Int.ofNat_tmod]
theorem Mx (n l h:Int):AF Tryz.prog 19 [.int n,.int l,.int h] (.bool (decide (l<=n/\n<=h))):=by
 refine As func19 rfl λB D0 hA0=>?_
 refine Ae 11 (Gp 10 (l<=n) (λhx1 hx1d=>?_) (λhx1 hx1d=>?_))
 ·
  exact Ae 8 (Fd (.bool (decide (n<=h))) (congrArg AV.bool (decide_eq_decide.2 ω)))
 ·
  exact Ae 8 (Fd (.bool false) (congrArg AV.bool (decide_eq_false ω).symm))
theorem qH (n:Int):AF Tryz.prog 12 [.int n] (.bool (decide (0<=n/\n<=86400000))):=by
 refine As func12 rfl λB D0 hA0=>?_
 refine Ae 10 (Gp 5 ((0:Int)<=n) (λhx1 hx1d=>?_) (λhx1 hx1d=>?_))
 ·
  exact Ae 7 (Fd (.bool (decide (n<=86400000))) (congrArg AV.bool (decide_eq_decide.2 ω)))
 ·
  exact Ae 7 (Fd (.bool false) (congrArg AV.bool (decide_eq_false ω).symm))
theorem Lu (n l h:Int) (hh:l<=n/\n<=h):AF Tryz.prog 19 [.int n,.int l,.int h] (.bool true):=by
 have:=Mx n l h
 rwa [decide_eq_true hh] at this
theorem Ama (n l h:Int) (hh:¬(l<=n/\n<=h)):AF Tryz.prog 19 [.int n,.int l,.int h] (.bool false):=by
 have:=Mx n l h
 rwa [decide_eq_false hh] at this
theorem Wc (t:Nat) (ht:t<=86400000):mP Qo Tryz.prog 17 [.int (t:Int)] (.lit (.tuple #[.string (BS (Pu t)),.int .i64 0])):=by
 refine Wm Ks func17 rfl λB D0 hA0 hT=>?_
 refine Ae 10 (Ao (Lu (t:Int) 0 86400000 ω) (Ae 9 (Cz (.int .i64 (IntKind.wrap .i64 (Int.tdiv (t:Int) 3600000))) (.int .i64 ((t/3600000:Nat):Int)) ?_ (kq t 3600000 _ rfl ω))))
 refine Su hT (dR (t/3600000) ω) ?_
 refine Cu (.lit (.string (BS ((Cg (t/3600000) 2)++([58]))))) .none (Sc 9 9 (.tmp 9) (.const (.string ⟨#[58]⟩)) (Cg (t/3600000) 2) ([58]) κ κ κ (by simp only[El];decide)) (Ae 1 (Cz (.int .i64 (IntKind.wrap .i64 (Int.tdiv (t:Int) 60000))) (.int .i64 ((t/60000:Nat):Int)) ?_ (kq t 60000 _ rfl ω)))
 refine Cz (.int .i64 (Int.tmod ((t/60000:Nat):Int) 60)) (.int .i64 ((t/60000%60:Nat):Int)) ?_ (kr (t/60000) 60 _ rfl)
 refine Su hT (dR (t/60000%60) ω) ?_
 refine Cu (.lit (.string (BS (((Cg (t/3600000) 2)++([58]))++(Cg (t/60000%60) 2))))) .none (Sc 9 9 (.tmp 10) (.tmp 14) ((Cg (t/3600000) 2)++([58])) (Cg (t/60000%60) 2) κ κ κ (by simp only[List.length_append,El];decide)) (Cu (.lit (.string (BS ((((Cg (t/3600000) 2)++([58]))++(Cg (t/60000%60) 2))++([58]))))) .none (Sc 9 9 (.tmp 15) (.const (.string ⟨#[58]⟩)) (((Cg (t/3600000) 2)++([58]))++(Cg (t/60000%60) 2)) ([58]) κ κ κ (by simp only[List.length_append,El];decide)) (Ae 1 (Cz (.int .i64 (IntKind.wrap .i64 (Int.tdiv (t:Int) 1000))) (.int .i64 ((t/1000:Nat):Int)) ?_ (kq t 1000 _ rfl ω))))
 refine Cz (.int .i64 (Int.tmod ((t/1000:Nat):Int) 60)) (.int .i64 ((t/1000%60:Nat):Int)) ?_ (kr (t/1000) 60 _ rfl)
 refine Su hT (dR (t/1000%60) ω) ?_
 refine Cu (.lit (.string (BS (((((Cg (t/3600000) 2)++([58]))++(Cg (t/60000%60) 2))++([58]))++(Cg (t/1000%60) 2))))) .none (Sc 9 9 (.tmp 16) (.tmp 20) ((((Cg (t/3600000) 2)++([58]))++(Cg (t/60000%60) 2))++([58])) (Cg (t/1000%60) 2) κ κ κ (by simp only[List.length_append,El];decide)) (Cu (.lit (.string (BS ((((((Cg (t/3600000) 2)++([58]))++(Cg (t/60000%60) 2))++([58]))++(Cg (t/1000%60) 2))++([46]))))) .none (Sc 9 9 (.tmp 21) (.const (.string ⟨#[46]⟩)) (((((Cg (t/3600000) 2)++([58]))++(Cg (t/60000%60) 2))++([58]))++(Cg (t/1000%60) 2)) ([46]) κ κ κ (by simp only[List.length_append,El];decide)) (Ae 1 (Cz (.int .i64 (Int.tmod (t:Int) 1000)) (.int .i64 ((t%1000:Nat):Int)) ?_ (kr t 1000 _ rfl))))
 refine Su hT (AeN (t%1000) ω) ?_
 exact Cu (.lit (.string (BS (((((((Cg (t/3600000) 2)++([58]))++(Cg (t/60000%60) 2))++([58]))++(Cg (t/1000%60) 2))++([46]))++(Cg (t%1000) 3))))) .none (Sc 9 9 (.tmp 22) (.tmp 25) ((((((Cg (t/3600000) 2)++([58]))++(Cg (t/60000%60) 2))++([58]))++(Cg (t/1000%60) 2))++([46])) (Cg (t%1000) 3) κ κ κ (by simp only[List.length_append,El];decide)) (Ae 5 (Ck))
theorem AbL (t:Int) (ht:¬(0<=t/\t<=86400000)):AF Tryz.prog 17 [.int t] (.lit (.tuple #[.string ⟨#[]⟩,.int .i64 2])):=by
 refine As func17 rfl λB D0 hA0=>?_
 exact Ae 10 (Ao (Ama t 0 86400000 ht) (Ae 12 (Ck)))
def eQ (s:ByteArray) (j:Int×Nat):AV:=match Lib.atoiAll s.data.toList with
 | .ok v=> .lit (.tuple #[.int .i64 v,.nilIface])
 |_=> .lit (.tuple #[.int .i64 j.1,.iface 139 (.pointer (some ⟨j.2,0,none⟩))])
theorem AeK (s:ByteArray) (hs:s.size<=1000000):AFE Qo Tryz.prog 30 [.lit (.string s)] (eQ s):=by
 intro E us hT hD hn hv
 have:us=#[.string s]:=VR.lits (E:=E.fz) (l:=[.string s]) (by simpa using hn) (VR.tops hv)
 subst this
 have done:∀(v:Value) (e:Ending) (w':World) (j:Int×Nat),e= .returned v->Below E.w.heap.size E.w w'->eQ s j= .lit v->∃j v D',e= .returned v/\VR { E with D:=D',w:=w' } (eQ s j) v/\Below E.w.heap.size E.w w'/\(∀b,E.D b->D' b)/\(∀b,D' b->E.D b\/E.w.heap.size<=b)/\(∀b,D' b->b<w'.heap.size):=by
  intro v e w' j he hb hj
  exact⟨j,v,E.D,he,by rw[hj];exact .lit _ _,hb,λ_ h=>h,λ_ h=> .inl h,λb hb'=>Nat.lt_of_lt_of_le (hD b hb') hb.size⟩
 cases hA:Lib.atoiAll s.data.toList with
 |ok v=>
  refine(Tryz.strconv_Atoi_ok s ω v hA E.w).mono ?_
  rintro e w1 ⟨he,hw1⟩
  refine done _ _ _ (0,0) he ?_ (by unfold eQ;rw[hA])
  rcases hw1 with h|⟨t,h⟩
  rw[h];exact Below.refl _ _
  rw[h];exact Lib.bytesWorld_below _ _ _
 |range=>
  obtain⟨t,p,h⟩:=hT.at.2.2
  refine(Any.strconv_Atoi_range_var Tryz.laysC172 s ω hA t p E.w h).mono ?_
  rintro e w' ⟨N,he,_,_,hb⟩
  exact done _ _ _ (_,N) he hb (by unfold eQ;rw[hA];rfl)
 |_=>
  obtain⟨t,p,h⟩:=hT.at.2.1
  refine(Any.strconv_Atoi_syntax_var Tryz.laysC172 s ω hA t p E.w h).mono ?_
  rintro e w' ⟨N,he,_,_,hb⟩
  exact done _ _ _ (0,N) he hb (by unfold eQ;rw[hA];rfl)
theorem Ab5 {R:Option Nat} {B:Nat} {D0:Ar} {Q:Exit->St->Prop} {c:Bu} (hT:Pt Qo/\Qo D0) (s:ByteArray) (hs:s.size<=1000000) (h1:∀v,Lib.atoiAll s.data.toList= .ok v->Go Tryz.prog R B D0 Q (c.put (.lit (.tuple #[.int .i64 v,.nilIface])) .none))
  (h2:(∀v,Lib.atoiAll s.data.toList≠.ok v)->∀(n:Int) (N:Nat),Go Tryz.prog R B D0 Q (c.put (.lit (.tuple #[.int .i64 n,.iface 139 (.pointer (some ⟨N,0,none⟩))])) .none)) (ho:c.o.op= .call { callee:= .value (.func 30),args:=c.xs,argTypes:=c.ts }:=by kernel_rfl) (hargs:c.xs.toList.map c.s.ev=[.lit (.string s)]:=by kernel_rfl) (hok:c.ok=true:=by kernel_rfl) (hg:c.o.guard=none:=by kernel_rfl) (hcall:∀(vs:Array Value) w,(callFunc 30 vs).run Tryz.prog w= .ok (.enter 30 vs) w:=by intro _ _;kernel_rfl):Go Tryz.prog R B D0 Q c:=by
 refine ApW hT (AeK s hs) (λj=>?_) ho hargs rfl hok hg hcall
 unfold eQ
 cases hA:Lib.atoiAll s.data.toList with
 |ok v=>exact h1 v hA
 |range=>exact h2 (λv e=>by rw[hA] at e;cases e) j.1 j.2
 |_=>exact h2 (λv e=>by rw[hA] at e;cases e) j.1 j.2
def dI (s:ByteArray):Option Int:=match Lib.atoiAll s.data.toList with| .ok v=>if v<0 then none else some v|_=>none
theorem Lx {s:ByteArray} {v:Int} (h:Lib.atoiAll s.data.toList= .ok v) (hv:¬v<0):dI s=some v:=by unfold dI;rw[h];exact if_neg hv
theorem dJ {s:ByteArray} {v:Int} (h:Lib.atoiAll s.data.toList= .ok v) (hv:v<0):dI s=none:=by unfold dI;rw[h];exact if_pos hv
theorem pD {s:ByteArray} (h:∀v,Lib.atoiAll s.data.toList≠.ok v):dI s=none:=by
 unfold dI
 cases hA:Lib.atoiAll s.data.toList with
 |ok v=>exact absurd hA (h v)
 |range=>rfl
 |_=>rfl
def Eh (t v k:Int):Int:=IntKind.wrap .i64 (t+IntKind.wrap .i64 (v*k))
def Nw (s:ByteArray):Option Int:=
 (dI (s.extract 0 2)).bind λa=>(dI (s.extract 3 5)).bind λb=>(dI (s.extract 6 8)).bind λc=>(dI (s.extract 9 12)).bind λd=>some (Eh (Eh (Eh (Eh 0 a 3600000) b 60000) c 1000) d 1)
def Se (s:ByteArray):Option Nat:=if s.size=12 then (Nw s).bind λt=>if 0<=t/\t<=86400000/\BS (Pu t.toNat)=s then some t.toNat else none else none
def Kw (s:ByteArray):AV:=match Se s with
 |some n=> .lit (.tuple #[.int .i64 (n:Int),.int .i64 0])
 |none=> .lit (.tuple #[.int .i64 0,.int .i64 6])
abbrev iQ:AV:= .lit (.tuple #[.int .i64 0,.int .i64 6])
theorem Yu {s:ByteArray} (h:Se s=none):iQ=Kw s:=by unfold Kw;rw[h]
theorem AkM {s:ByteArray} (h:¬s.size=12):iQ=Kw s:=Yu (if_neg h)
theorem pM {s:ByteArray} (h:Nw s=none):iQ=Kw s:=Yu (by unfold Se;rw[h];split<;>rfl)
theorem AoH {s:ByteArray} (h:dI (s.extract 0 2)=none):iQ=Kw s:=pM (by unfold Nw;rw[h];rfl)
theorem AoI {s:ByteArray} (h:dI (s.extract 3 5)=none):iQ=Kw s:=pM (by unfold Nw;rw[h];cases dI (s.extract 0 2)<;>rfl)
theorem AoJ {s:ByteArray} (h:dI (s.extract 6 8)=none):iQ=Kw s:=pM (by unfold Nw;rw[h];cases dI (s.extract 0 2)<;>cases dI (s.extract 3 5)<;>rfl)
theorem AoK {s:ByteArray} (h:dI (s.extract 9 12)=none):iQ=Kw s:=pM (by unfold Nw;rw[h];cases dI (s.extract 0 2)<;>cases dI (s.extract 3 5)<;>cases dI (s.extract 6 8)<;>rfl)
theorem pC {s:ByteArray} {a b c d:Int} (ha:dI (s.extract 0 2)=some a) (hb:dI (s.extract 3 5)=some b) (hc:dI (s.extract 6 8)=some c) (hd:dI (s.extract 9 12)=some d):Nw s=some (Eh (Eh (Eh (Eh 0 a 3600000) b 60000) c 1000) d 1):=by unfold Nw;rw[ha,hb,hc,hd];rfl
theorem An0 {s:ByteArray} {t:Int} (h:Nw s=some t) (ht:¬(0<=t/\t<=86400000)):iQ=Kw s:=Yu (by
 unfold Se
 rw[h]
 split
 exact if_neg λg=>ht ⟨g.1,g.2.1⟩
 rfl)
theorem AkL {s:ByteArray} {t:Int} (h:Nw s=some t) (hd:BS (Pu t.toNat)≠s):iQ=Kw s:=Yu (by
 unfold Se
 rw[h]
 split
 exact if_neg λg=>hd g.2.2
 rfl)
theorem AoL {s:ByteArray} {t:Int} (hs:s.size=12) (h:Nw s=some t) (ht:0<=t/\t<=86400000) (hd:BS (Pu t.toNat)=s):(.lit (.tuple #[.int .i64 t,.int .i64 0]):AV)=Kw s:=by
 have e:Se s=some t.toNat:=by
  unfold Se
  rw[if_pos hs,h]
  exact if_pos ⟨ht.1,ht.2,hd⟩
 unfold Kw
 rw[e]
 show _=AV.lit (.tuple #[.int .i64 (t.toNat:Int),.int .i64 0])
 rw[Int.toNat_of_nonneg ht.1]
theorem vL (t:Int) (ht:0<=t/\t<=86400000):mP Qo Tryz.prog 17 [.int t] (.lit (.tuple #[.string (BS (Pu t.toNat)),.int .i64 0])):=by
 have h:=Wc t.toNat ω
 rwa [Int.toNat_of_nonneg ht.1] at h
theorem Ap8 {a b:ByteArray} (h:(a.toList==b.toList)=true):a=b:=by
 have h2:=eq_of_beq h
 rw[ByteArray.toList_eq,ByteArray.toList_eq] at h2
 exact ByteArray.ext (Array.toList_inj.1 h2)
theorem Ap9 {a b:ByteArray} (h:(a.toList==b.toList)=false):a≠b:=λe=>by
 rw[e] at h
 simp at h
theorem AbB (s:ByteArray):mP Qo Tryz.prog 18 [.lit (.string s)] (Kw s):=by
 refine Wm Ks func18 rfl λB D0 hA0 hT=>?_
 refine Ae 10 (Cz (.int .i64 (ByteArray.size s:Int)) (.int .i64 (ByteArray.size s:Int)) (Ae 3 (pX 13 ((ByteArray.size s:Int)=12) (λhx1 hx1d=>?_) (λhx1 hx1d=>?_))))
 ·
  refine Ae 20 (Sv 4 (Ae 13 (Cz (.agg #[.int .i64 0,.int .i64 2,.int .i64 3600000]) (.agg #[.int .i64 0,.int .i64 2,.int .i64 3600000]) (Ae 11 (Cu (.lit (.string (s.extract 0 2))) .none (dG 9 (.tmp 23) (.tmp 25) (.tmp 27) s 0 2 0 2 κ underlying9 κ κ κ rfl rfl ω ω) (Ab5 hT (s.extract 0 2) (by rw[ByteArray.size_extract];omega) (λv0 ha0=>?_) (λha0 n0 N0=>?_)))))))
  ·
   refine Ae 11 (Cz (.bool false) (.bool false) (Ae 6 (Gp 37 (v0<0) (λhx2 hx2d=>?_) (λhx2 hx2d=>?_))))
   ·
    exact Ae 14 (Fd (.lit (.tuple #[.int .i64 0,.int .i64 6])) (AoH (dJ ha0 hx2d)))
   ·
    refine Ae 8 (Cz (.int .i64 (IntKind.wrap .i64 (v0*3600000))) (.int .i64 (IntKind.wrap .i64 (v0*3600000))) (Cz (.int .i64 (IntKind.wrap .i64 ((0:Int)+IntKind.wrap .i64 (v0*3600000)))) (.int .i64 (Eh 0 v0 3600000)) ?_ rfl))
    refine Ae 5 (Cz (.int .i64 1) (.int .i64 1) (Ae 16 (Cz (.agg #[.int .i64 3,.int .i64 5,.int .i64 60000]) (.agg #[.int .i64 3,.int .i64 5,.int .i64 60000]) (Ae 11 (Cu (.lit (.string (s.extract 3 5))) .none (dG 9 (.tmp 23) (.tmp 25) (.tmp 27) s 3 5 3 5 κ underlying9 κ κ κ rfl rfl ω ω) (Ab5 hT (s.extract 3 5) (by rw[ByteArray.size_extract];omega) (λv1 ha1=>?_) (λha1 n1 N1=>?_)))))))
    ·
     refine Ae 11 (Cz (.bool false) (.bool false) (Ae 6 (Gp 37 (v1<0) (λhx3 hx3d=>?_) (λhx3 hx3d=>?_))))
     ·
      exact Ae 14 (Fd (.lit (.tuple #[.int .i64 0,.int .i64 6])) (AoI (dJ ha1 hx3d)))
     ·
      refine Ae 8 (Cz (.int .i64 (IntKind.wrap .i64 (v1*60000))) (.int .i64 (IntKind.wrap .i64 (v1*60000))) (Cz (.int .i64 (IntKind.wrap .i64 (Eh 0 v0 3600000+IntKind.wrap .i64 (v1*60000)))) (.int .i64 (Eh (Eh 0 v0 3600000) v1 60000)) ?_ rfl))
      refine Ae 5 (Cz (.int .i64 2) (.int .i64 2) (Ae 16 (Cz (.agg #[.int .i64 6,.int .i64 8,.int .i64 1000]) (.agg #[.int .i64 6,.int .i64 8,.int .i64 1000]) (Ae 11 (Cu (.lit (.string (s.extract 6 8))) .none (dG 9 (.tmp 23) (.tmp 25) (.tmp 27) s 6 8 6 8 κ underlying9 κ κ κ rfl rfl ω ω) (Ab5 hT (s.extract 6 8) (by rw[ByteArray.size_extract];omega) (λv2 ha2=>?_) (λha2 n2 N2=>?_)))))))
      ·
       refine Ae 11 (Cz (.bool false) (.bool false) (Ae 6 (Gp 37 (v2<0) (λhx4 hx4d=>?_) (λhx4 hx4d=>?_))))
       ·
        exact Ae 14 (Fd (.lit (.tuple #[.int .i64 0,.int .i64 6])) (AoJ (dJ ha2 hx4d)))
       ·
        refine Ae 8 (Cz (.int .i64 (IntKind.wrap .i64 (v2*1000))) (.int .i64 (IntKind.wrap .i64 (v2*1000))) (Cz (.int .i64 (IntKind.wrap .i64 (Eh (Eh 0 v0 3600000) v1 60000+IntKind.wrap .i64 (v2*1000)))) (.int .i64 (Eh (Eh (Eh 0 v0 3600000) v1 60000) v2 1000)) ?_ rfl))
        refine Ae 5 (Cz (.int .i64 3) (.int .i64 3) (Ae 16 (Cz (.agg #[.int .i64 9,.int .i64 12,.int .i64 1]) (.agg #[.int .i64 9,.int .i64 12,.int .i64 1]) (Ae 11 (Cu (.lit (.string (s.extract 9 12))) .none (dG 9 (.tmp 23) (.tmp 25) (.tmp 27) s 9 12 9 12 κ underlying9 κ κ κ rfl rfl ω ω) (Ab5 hT (s.extract 9 12) (by rw[ByteArray.size_extract];omega) (λv3 ha3=>?_) (λha3 n3 N3=>?_)))))))
        ·
         refine Ae 11 (Cz (.bool false) (.bool false) (Ae 6 (Gp 37 (v3<0) (λhx5 hx5d=>?_) (λhx5 hx5d=>?_))))
         ·
          exact Ae 14 (Fd (.lit (.tuple #[.int .i64 0,.int .i64 6])) (AoK (dJ ha3 hx5d)))
         ·
          refine Ae 8 (Cz (.int .i64 (IntKind.wrap .i64 (v3*1))) (.int .i64 (IntKind.wrap .i64 (v3*1))) (Cz (.int .i64 (IntKind.wrap .i64 (Eh (Eh (Eh 0 v0 3600000) v1 60000) v2 1000+IntKind.wrap .i64 (v3*1)))) (.int .i64 (Eh (Eh (Eh (Eh 0 v0 3600000) v1 60000) v2 1000) v3 1)) ?_ rfl))
          refine Ae 5 (Cz (.int .i64 4) (.int .i64 4) (Ae 19 (vsp (0<=(Eh (Eh (Eh (Eh 0 v0 3600000) v1 60000) v2 1000) v3 1)/\(Eh (Eh (Eh (Eh 0 v0 3600000) v1 60000) v2 1000) v3 1)<=86400000) (λhx6 hx6d=>?_) (λhx6 hx6d=>?_))))
          ·
           refine Su hT (vL (Eh (Eh (Eh (Eh 0 v0 3600000) v1 60000) v2 1000) v3 1) hx6d) ?_
           refine Ae 14 (Cz (.bool (!((BS (Pu (Int.toNat (Eh (Eh (Eh (Eh 0 v0 3600000) v1 60000) v2 1000) v3 1)))).toList==s.toList))) (.bool (!((BS (Pu (Int.toNat (Eh (Eh (Eh (Eh 0 v0 3600000) v1 60000) v2 1000) v3 1)))).toList==s.toList))) (Ae 3 (cI 56 ((BS (Pu (Int.toNat (Eh (Eh (Eh (Eh 0 v0 3600000) v1 60000) v2 1000) v3 1)))).toList==s.toList) (λhx7=>?_) (λhx7=>?_))))
           ·
            exact Ae 11 (Fd (.lit (.tuple #[.int .i64 (Eh (Eh (Eh (Eh 0 v0 3600000) v1 60000) v2 1000) v3 1),.int .i64 0])) (AoL ω (pC (Lx ha0 hx2d) (Lx ha1 hx3d) (Lx ha2 hx4d) (Lx ha3 hx5d)) hx6d (Ap8 hx7)))
           ·
            exact Ae 9 (Fd (.lit (.tuple #[.int .i64 0,.int .i64 6])) (AkL (pC (Lx ha0 hx2d) (Lx ha1 hx3d) (Lx ha2 hx4d) (Lx ha3 hx5d)) (Ap9 hx7)))
          ·
           exact Ao (AbL (Eh (Eh (Eh (Eh 0 v0 3600000) v1 60000) v2 1000) v3 1) hx6d) (Ae 27 (Fd (.lit (.tuple #[.int .i64 0,.int .i64 6])) (An0 (pC (Lx ha0 hx2d) (Lx ha1 hx3d) (Lx ha2 hx4d) (Lx ha3 hx5d)) hx6d)))
        ·
         exact Ae 11 (Cz (.bool true) (.bool true) (Ae 20 (Fd (.lit (.tuple #[.int .i64 0,.int .i64 6])) (AoK (pD ha3)))))
      ·
       exact Ae 11 (Cz (.bool true) (.bool true) (Ae 20 (Fd (.lit (.tuple #[.int .i64 0,.int .i64 6])) (AoJ (pD ha2)))))
    ·
     exact Ae 11 (Cz (.bool true) (.bool true) (Ae 20 (Fd (.lit (.tuple #[.int .i64 0,.int .i64 6])) (AoI (pD ha1)))))
  ·
   exact Ae 11 (Cz (.bool true) (.bool true) (Ae 20 (Fd (.lit (.tuple #[.int .i64 0,.int .i64 6])) (AoH (pD ha0)))))
 ·
  exact Ae 9 (Fd (.lit (.tuple #[.int .i64 0,.int .i64 6])) (AkM ω))
end Go.Proofs.YtihcpmmopejpoaaGreatDoor