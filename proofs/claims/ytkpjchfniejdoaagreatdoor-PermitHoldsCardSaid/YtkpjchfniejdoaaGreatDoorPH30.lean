/- Part 30 of the proof of PH.card_holds: no condition beyond the row's. -/
import Derived.Test.YtkpjchfniejdoaaGreatDoorPH29
import Derived.Lib.AppendIntMem
set_option maxRecDepth 100000
set_option maxHeartbeats 40000000
namespace Go.Proofs.YtkpjchfniejdoaaGreatDoor
open Go.Proofs.Tryz
open Go.RowKit
def Agg (w:World):Prop:=Lib.TabIs Tryz.prog w "internal/strconv.uint64pow10" .u64 Lib.pow10Tab
def AfZ (w:World):Prop:=(∃t p,w.var? Tryz.prog "strconv.ErrSyntax"=some #[.iface t p])/\∃t p,w.var? Tryz.prog "strconv.ErrRange"=some #[.iface t p]
theorem jN {w w':World} {n:String} {cs:Array Value} (h:w.var? Tryz.prog n=some cs) (hb:∀b,b<w.heap.size->w'.heap[b]?=w.heap[b]?):w'.var? Tryz.prog n=some cs:=by
 unfold World.var? at*
 cases hg:Tryz.prog.globalNamed n with
 |none=>rw[hg] at h;cases h
 |some g=>
  rw[hg] at h
  simp only[Option.bind_some] at h ⊢
  cases hc:w.heap[g]? with
  |none=>rw[hc] at h;cases h
  |some o=>rw[hb g (Ξ hc).1,hc];rw[hc] at h;exact h
def Akg (w:World):Prop:=∃m,w.cell? ⟨2,0,none⟩=some (.int .i64 m)
def Hw (E:As):Prop:=∃W:World,Agg W/\AfZ W/\Akg W/\∀b,b<W.heap.size->E.D b/\E.w.heap[b]?=W.heap[b]?
theorem Ew:Lz Hw:=⟨λhle ⟨W,h1,h2,h4,h3⟩=>⟨W,h1,h2,h4,λb hb=>⟨hle.D b (h3 b hb).1,(hle.blk b (h3 b hb).1).trans (h3 b hb).2⟩⟩,λh=>h,λh=>h⟩
theorem Hw.at {E:As} (h:Hw E):Agg E.w/\AfZ E.w:=by
 obtain⟨W,h1,⟨⟨t1,p1,e1⟩,t2,p2,e2⟩,_,h3⟩:=h
 have hb:=λb hb=>(h3 b hb).2
 exact⟨jN h1 hb,⟨t1,p1,jN e1 hb⟩,t2,p2,jN e2 hb⟩
theorem Hw.max {E:As} (h:Hw E):Akg E.w:=by
 obtain⟨W,_,_,⟨m,hm⟩,h3⟩:=h
 exact⟨m,(World.cell?_of_block (w:=W) (h3 _ (World.block_lt_of_cell? _ _ hm)).2).trans hm⟩
theorem nV {f:FuncId} {vs:List Value} {v:Value} (h:∀w,Agg w->AfZ w->Calls Tryz.prog f vs.toArray w λe w'=>e= .returned v/\Below w.heap.size w w'):Vf Hw Tryz.prog f (vs.map .lit) (.lit v):=Afi λE us hT hD hn hv=>by
 have:us=vs.toArray:=VR.lits (E:=E.fz) (by simpa using hn) (VR.tops hv)
 subst this
 refine(h E.w hT.at.1 hT.at.2).mono ?_
 rintro e w' ⟨rfl,hb⟩
 exact⟨v,rfl,hb,λE' _ _ _=> .lit _ _⟩
theorem Afh (n:Nat) (h:n<=9223372036854775807):Vf Hw Tryz.prog 34 [.int (n:Int)] (SA (Lib.decDigits n)):=nV (vs:=[.int .i64 n]) λw hT _=>(Tryz.strconv_Itoa n ω ω w hT).mono λe w' ⟨he,k,os,hw⟩=>⟨by rw[he,Ah5],by rw[hw];exact Lib.below_grow _ w ζ k os⟩
theorem cJ (x:UInt8):∀c,Lib.repeatL [x] c=List.replicate c x
 |0=>rfl
 |c+1=>by rw[Lib.repeatL,cJ x c];rfl
theorem AjY (c:Nat) (h:c<=100):AF Tryz.prog 36 [.lit (.string ⟨#[48]⟩),.int (max 0 (c:Int))] (SA (List.replicate c 48)):=by
 rw[Int.max_eq_right ω]
 exact nY (vs:=[.string ⟨#[48]⟩,.int .i64 c]) λw=>(Tryz.strings_Repeat ⟨#[48]⟩ c w ω (by show 1*c<=_;omega)).mono λe w' ⟨he,hb⟩=>⟨by rw[he,show (⟨#[48]⟩:ByteArray).data.toList=[48] from rfl,cJ],hb⟩
theorem AaL (n d:Nat) (hn:n<=9223372036854775807) (hd:d<=3) (hl:(Lib.decDigits n).length<=d):Vf Hw Tryz.prog 26 [.int (n:Int),.int (d:Int)] (SA (Ais n d)):=by
 have hsz:ByteArray.size (BS (Lib.decDigits n))=(Lib.decDigits n).length:=rfl
 refine Kc Ew func26 rfl λB D0 hA0 hT=>?_
 refine Ae 8 (Gu hT (Afh n hn) ?_)
 exact Ae 7 (Bo (.int .i64 (ByteArray.size (BS (Lib.decDigits n)):Int)) (.int .i64 (ByteArray.size (BS (Lib.decDigits n)):Int)) (Dd ((d:Int)-(ByteArray.size (BS (Lib.decDigits n)):Int)) ((d-ByteArray.size (BS (Lib.decDigits n)):Nat):Int) (Ci (.int (max 0 ((d-ByteArray.size (BS (Lib.decDigits n)):Nat):Int))) .none (Ip (.const (.int .i64 0)) (.tmp 11) #[3,3] κ 0 ((d-ByteArray.size (BS (Lib.decDigits n)):Nat):Int) κ κ) (Ao (AjY (d-ByteArray.size (BS (Lib.decDigits n))) ω) (Ae 1 (Ci (.lit (.string (BS ((List.replicate (d-ByteArray.size (BS (Lib.decDigits n))) 48)++(Lib.decDigits n))))) .none (Dg 9 9 (.tmp 13) (.tmp 14) (List.replicate (d-ByteArray.size (BS (Lib.decDigits n))) 48) (Lib.decDigits n) κ κ κ (by rw[List.length_replicate];omega)) (Ae 4 (Cm))))))))
theorem tB {n:Nat} (h:n<100):(Lib.decDigits n).length<=2:=by
 rcases Nat.lt_or_ge n 10 with g|g
 rw[Ow g,Ei];decide
 rw[Ox g h,Ei];decide
theorem AgG {n:Nat} (h:n<1000):(Lib.decDigits n).length<=3:=by
 rcases Nat.lt_or_ge n 100 with g|g
 exact Nat.le_trans (tB g) δ
 rw[bQ g h,Ei];decide
theorem eI (n:Nat) (h:n<100):Vf Hw Tryz.prog 26 [.int (n:Int),.int 2] (SA (Cd n 2)):=by
 have:=AaL n 2 ω ω (tB h)
 rw[Aot h] at this
 exact this
theorem Afj (n:Nat) (h:n<1000):Vf Hw Tryz.prog 26 [.int (n:Int),.int 3] (SA (Cd n 3)):=by
 have:=AaL n 3 ω ω (AgG h)
 rw[Aou h] at this
 exact this
theorem kq (t m:Nat) (k:Int) (hk:k=(m:Int)) (ht:t<=9223372036854775807):Value.int .i64 (IntKind.wrap .i64 (Int.tdiv (t:Int) k))= .int .i64 ((t/m:Nat):Int):=by
 subst hk
 rw[<-Int.ofNat_tdiv]
 have:=Nat.div_le_self t m
 generalize t/m=q at*
 exact congrArg (Value.int .i64) (IntWalk.i64_in _ ω)
theorem kr (t m:Nat) (k:Int) (hk:k=(m:Int)):Value.int .i64 (Int.tmod (t:Int) k)= .int .i64 ((t%m:Nat):Int):=by
 subst hk
 rw[<-Int.ofNat_tmod]
theorem Mx (n l h:Int):AF Tryz.prog 25 [.int n,.int l,.int h] (.bool (decide (l<=n/\n<=h))):=by
 refine Au func25 rfl λB D0 hA0=>?_
 refine Ae 11 (Fy 10 (l<=n) (λhx1 hx1d=>?_) (λhx1 hx1d=>?_))
 ·
  exact Ae 8 (Eb (.bool (decide (n<=h))) (congrArg AV.bool (decide_eq_decide.2 ω)))
 ·
  exact Ae 8 (Eb (.bool false) (congrArg AV.bool (decide_eq_false ω).symm))
theorem eN (n:Int):AF Tryz.prog 10 [.int n] (.bool (decide (0<=n/\n<=86400000))):=by
 refine Au func10 rfl λB D0 hA0=>?_
 refine Ae 10 (Fy 5 ((0:Int)<=n) (λhx1 hx1d=>?_) (λhx1 hx1d=>?_))
 ·
  exact Ae 7 (Eb (.bool (decide (n<=86400000))) (congrArg AV.bool (decide_eq_decide.2 ω)))
 ·
  exact Ae 7 (Eb (.bool false) (congrArg AV.bool (decide_eq_false ω).symm))
theorem It (n l h:Int) (hh:l<=n/\n<=h):AF Tryz.prog 25 [.int n,.int l,.int h] (.bool true):=by
 have:=Mx n l h
 rwa [decide_eq_true hh] at this
theorem AmX (n l h:Int) (hh:¬(l<=n/\n<=h)):AF Tryz.prog 25 [.int n,.int l,.int h] (.bool false):=by
 have:=Mx n l h
 rwa [decide_eq_false hh] at this
theorem Wp (t:Nat) (ht:t<=86400000):Vf Hw Tryz.prog 11 [.int (t:Int)] (.lit (.tuple #[.string (BS (Em t)),.int .i64 0])):=by
 refine Kc Ew func11 rfl λB D0 hA0 hT=>?_
 refine Ae 10 (Ao (It (t:Int) 0 86400000 ω) (Ae 9 (Bo (.int .i64 (IntKind.wrap .i64 (Int.tdiv (t:Int) 3600000))) (.int .i64 ((t/3600000:Nat):Int)) ?_ (kq t 3600000 _ rfl ω))))
 refine Gu hT (eI (t/3600000) ω) ?_
 refine Ci (.lit (.string (BS ((Cd (t/3600000) 2)++([58]))))) .none (Dg 9 9 (.tmp 9) (.const (.string ⟨#[58]⟩)) (Cd (t/3600000) 2) ([58]) κ κ κ (by simp only[Ei];decide)) (Ae 1 (Bo (.int .i64 (IntKind.wrap .i64 (Int.tdiv (t:Int) 60000))) (.int .i64 ((t/60000:Nat):Int)) ?_ (kq t 60000 _ rfl ω)))
 refine Bo (.int .i64 (Int.tmod ((t/60000:Nat):Int) 60)) (.int .i64 ((t/60000%60:Nat):Int)) ?_ (kr (t/60000) 60 _ rfl)
 refine Gu hT (eI (t/60000%60) ω) ?_
 refine Ci (.lit (.string (BS (((Cd (t/3600000) 2)++([58]))++(Cd (t/60000%60) 2))))) .none (Dg 9 9 (.tmp 10) (.tmp 14) ((Cd (t/3600000) 2)++([58])) (Cd (t/60000%60) 2) κ κ κ (by simp only[List.length_append,Ei];decide)) (Ci (.lit (.string (BS ((((Cd (t/3600000) 2)++([58]))++(Cd (t/60000%60) 2))++([58]))))) .none (Dg 9 9 (.tmp 15) (.const (.string ⟨#[58]⟩)) (((Cd (t/3600000) 2)++([58]))++(Cd (t/60000%60) 2)) ([58]) κ κ κ (by simp only[List.length_append,Ei];decide)) (Ae 1 (Bo (.int .i64 (IntKind.wrap .i64 (Int.tdiv (t:Int) 1000))) (.int .i64 ((t/1000:Nat):Int)) ?_ (kq t 1000 _ rfl ω))))
 refine Bo (.int .i64 (Int.tmod ((t/1000:Nat):Int) 60)) (.int .i64 ((t/1000%60:Nat):Int)) ?_ (kr (t/1000) 60 _ rfl)
 refine Gu hT (eI (t/1000%60) ω) ?_
 refine Ci (.lit (.string (BS (((((Cd (t/3600000) 2)++([58]))++(Cd (t/60000%60) 2))++([58]))++(Cd (t/1000%60) 2))))) .none (Dg 9 9 (.tmp 16) (.tmp 20) ((((Cd (t/3600000) 2)++([58]))++(Cd (t/60000%60) 2))++([58])) (Cd (t/1000%60) 2) κ κ κ (by simp only[List.length_append,Ei];decide)) (Ci (.lit (.string (BS ((((((Cd (t/3600000) 2)++([58]))++(Cd (t/60000%60) 2))++([58]))++(Cd (t/1000%60) 2))++([46]))))) .none (Dg 9 9 (.tmp 21) (.const (.string ⟨#[46]⟩)) (((((Cd (t/3600000) 2)++([58]))++(Cd (t/60000%60) 2))++([58]))++(Cd (t/1000%60) 2)) ([46]) κ κ κ (by simp only[List.length_append,Ei];decide)) (Ae 1 (Bo (.int .i64 (Int.tmod (t:Int) 1000)) (.int .i64 ((t%1000:Nat):Int)) ?_ (kr t 1000 _ rfl))))
 refine Gu hT (Afj (t%1000) ω) ?_
 exact Ci (.lit (.string (BS (((((((Cd (t/3600000) 2)++([58]))++(Cd (t/60000%60) 2))++([58]))++(Cd (t/1000%60) 2))++([46]))++(Cd (t%1000) 3))))) .none (Dg 9 9 (.tmp 22) (.tmp 25) ((((((Cd (t/3600000) 2)++([58]))++(Cd (t/60000%60) 2))++([58]))++(Cd (t/1000%60) 2))++([46])) (Cd (t%1000) 3) κ κ κ (by simp only[List.length_append,Ei];decide)) (Ae 5 (Cm))
theorem Aci (t:Int) (ht:¬(0<=t/\t<=86400000)):AF Tryz.prog 11 [.int t] (.lit (.tuple #[.string ⟨#[]⟩,.int .i64 2])):=by
 refine Au func11 rfl λB D0 hA0=>?_
 exact Ae 10 (Ao (AmX t 0 86400000 ht) (Ae 12 (Cm)))
def fN (s:ByteArray) (j:Int×Nat):AV:=match Lib.atoiAll s.data.toList with
 | .ok v=> .lit (.tuple #[.int .i64 v,.nilIface])
 |_=> .lit (.tuple #[.int .i64 j.1,.iface 123 (.pointer (some ⟨j.2,0,none⟩))])
theorem Aff (s:ByteArray) (hs:s.size<=1000000):AFE Hw Tryz.prog 27 [.lit (.string s)] (fN s):=by
 intro E us hT hD hn hv
 have:us=#[.string s]:=VR.lits (E:=E.fz) (l:=[.string s]) (by simpa using hn) (VR.tops hv)
 subst this
 have done:∀(v:Value) (e:Ending) (w':World) (j:Int×Nat),e= .returned v->Below E.w.heap.size E.w w'->fN s j= .lit v->∃j v D',e= .returned v/\VR { E with D:=D',w:=w' } (fN s j) v/\Below E.w.heap.size E.w w'/\(∀b,E.D b->D' b)/\(∀b,D' b->E.D b\/E.w.heap.size<=b)/\(∀b,D' b->b<w'.heap.size):=by
  intro v e w' j he hb hj
  exact⟨j,v,E.D,he,by rw[hj];exact .lit _ _,hb,λ_ h=>h,λ_ h=> .inl h,λb hb'=>Nat.lt_of_lt_of_le (hD b hb') hb.size⟩
 cases hA:Lib.atoiAll s.data.toList with
 |ok v=>
  refine(Tryz.strconv_Atoi_ok s ω v hA E.w).mono ?_
  rintro e w1 ⟨he,hw1⟩
  refine done _ _ _ (0,0) he ?_ (by unfold fN;rw[hA])
  rcases hw1 with h|⟨t,h⟩
  rw[h];exact Below.refl _ _
  rw[h];exact Lib.bytesWorld_below _ _ _
 |range=>
  obtain⟨t,p,h⟩:=hT.at.2.2
  refine(Any.strconv_Atoi_range_var Tryz.laysC172 s ω hA t p E.w h).mono ?_
  rintro e w' ⟨N,he,_,_,hb⟩
  exact done _ _ _ (_,N) he hb (by unfold fN;rw[hA];rfl)
 |_=>
  obtain⟨t,p,h⟩:=hT.at.2.1
  refine(Any.strconv_Atoi_syntax_var Tryz.laysC172 s ω hA t p E.w h).mono ?_
  rintro e w' ⟨N,he,_,_,hb⟩
  exact done _ _ _ (0,N) he hb (by unfold fN;rw[hA];rfl)
theorem AbR {R:Option Nat} {B:Nat} {D0:As} {Q:Exit->St->Prop} {c:Bu} (hT:Lz Hw/\Hw D0) (s:ByteArray) (hs:s.size<=1000000) (h1:∀v,Lib.atoiAll s.data.toList= .ok v->Go Tryz.prog R B D0 Q (c.put (.lit (.tuple #[.int .i64 v,.nilIface])) .none))
  (h2:(∀v,Lib.atoiAll s.data.toList≠.ok v)->∀(n:Int) (N:Nat),Go Tryz.prog R B D0 Q (c.put (.lit (.tuple #[.int .i64 n,.iface 123 (.pointer (some ⟨N,0,none⟩))])) .none)) (ho:c.o.op= .call { callee:= .value (.func 27),args:=c.xs,argTypes:=c.ts }:=by kernel_rfl) (hargs:c.xs.toList.map c.s.ev=[.lit (.string s)]:=by kernel_rfl) (hok:c.ok=true:=by kernel_rfl) (hg:c.o.guard=none:=by kernel_rfl) (hcall:∀(vs:Array Value) w,(callFunc 27 vs).run Tryz.prog w= .ok (.enter 27 vs) w:=by intro _ _;kernel_rfl):Go Tryz.prog R B D0 Q c:=by
 refine Arn hT (Aff s hs) (λj=>?_) ho hargs rfl hok hg hcall
 unfold fN
 cases hA:Lib.atoiAll s.data.toList with
 |ok v=>exact h1 v hA
 |range=>exact h2 (λv e=>by rw[hA] at e;cases e) j.1 j.2
 |_=>exact h2 (λv e=>by rw[hA] at e;cases e) j.1 j.2
def cI (s:ByteArray):Option Int:=match Lib.atoiAll s.data.toList with| .ok v=>if v<0 then none else some v|_=>none
theorem Mc {s:ByteArray} {v:Int} (h:Lib.atoiAll s.data.toList= .ok v) (hv:¬v<0):cI s=some v:=by unfold cI;rw[h];exact if_neg hv
theorem eA {s:ByteArray} {v:Int} (h:Lib.atoiAll s.data.toList= .ok v) (hv:v<0):cI s=none:=by unfold cI;rw[h];exact if_pos hv
theorem qG {s:ByteArray} (h:∀v,Lib.atoiAll s.data.toList≠.ok v):cI s=none:=by
 unfold cI
 cases hA:Lib.atoiAll s.data.toList with
 |ok v=>exact absurd hA (h v)
 |range=>rfl
 |_=>rfl
def Dv (t v k:Int):Int:=IntKind.wrap .i64 (t+IntKind.wrap .i64 (v*k))
def Oa (s:ByteArray):Option Int:=
 (cI (s.extract 0 2)).bind λa=>(cI (s.extract 3 5)).bind λb=>(cI (s.extract 6 8)).bind λc=>(cI (s.extract 9 12)).bind λd=>some (Dv (Dv (Dv (Dv 0 a 3600000) b 60000) c 1000) d 1)
def Nz (s:ByteArray):Option Nat:=if s.size=12 then (Oa s).bind λt=>if 0<=t/\t<=86400000/\BS (Em t.toNat)=s then some t.toNat else none else none
def Kg (s:ByteArray):AV:=match Nz s with
 |some n=> .lit (.tuple #[.int .i64 (n:Int),.int .i64 0])
 |none=> .lit (.tuple #[.int .i64 0,.int .i64 6])
abbrev jU:AV:= .lit (.tuple #[.int .i64 0,.int .i64 6])
theorem Zj {s:ByteArray} (h:Nz s=none):jU=Kg s:=by unfold Kg;rw[h]
theorem Al3 {s:ByteArray} (h:¬s.size=12):jU=Kg s:=Zj (if_neg h)
theorem qR {s:ByteArray} (h:Oa s=none):jU=Kg s:=Zj (by unfold Nz;rw[h];split<;>rfl)
theorem ApU {s:ByteArray} (h:cI (s.extract 0 2)=none):jU=Kg s:=qR (by unfold Oa;rw[h];rfl)
theorem ApV {s:ByteArray} (h:cI (s.extract 3 5)=none):jU=Kg s:=qR (by unfold Oa;rw[h];cases cI (s.extract 0 2)<;>rfl)
theorem ApW {s:ByteArray} (h:cI (s.extract 6 8)=none):jU=Kg s:=qR (by unfold Oa;rw[h];cases cI (s.extract 0 2)<;>cases cI (s.extract 3 5)<;>rfl)
theorem ApX {s:ByteArray} (h:cI (s.extract 9 12)=none):jU=Kg s:=qR (by unfold Oa;rw[h];cases cI (s.extract 0 2)<;>cases cI (s.extract 3 5)<;>cases cI (s.extract 6 8)<;>rfl)
theorem dZ {s:ByteArray} {a b c d:Int} (ha:cI (s.extract 0 2)=some a) (hb:cI (s.extract 3 5)=some b) (hc:cI (s.extract 6 8)=some c) (hd:cI (s.extract 9 12)=some d):Oa s=some (Dv (Dv (Dv (Dv 0 a 3600000) b 60000) c 1000) d 1):=by unfold Oa;rw[ha,hb,hc,hd];rfl
theorem Aoz {s:ByteArray} {t:Int} (h:Oa s=some t) (ht:¬(0<=t/\t<=86400000)):jU=Kg s:=Zj (by
 unfold Nz
 rw[h]
 split
 exact if_neg λg=>ht ⟨g.1,g.2.1⟩
 rfl)
theorem Al2 {s:ByteArray} {t:Int} (h:Oa s=some t) (hd:BS (Em t.toNat)≠s):jU=Kg s:=Zj (by
 unfold Nz
 rw[h]
 split
 exact if_neg λg=>hd g.2.2
 rfl)
theorem ApY {s:ByteArray} {t:Int} (hs:s.size=12) (h:Oa s=some t) (ht:0<=t/\t<=86400000) (hd:BS (Em t.toNat)=s):(.lit (.tuple #[.int .i64 t,.int .i64 0]):AV)=Kg s:=by
 have e:Nz s=some t.toNat:=by
  unfold Nz
  rw[if_pos hs,h]
  exact if_pos ⟨ht.1,ht.2,hd⟩
 unfold Kg
 rw[e]
 show _=AV.lit (.tuple #[.int .i64 (t.toNat:Int),.int .i64 0])
 rw[Int.toNat_of_nonneg ht.1]
theorem Wo (t:Int) (ht:0<=t/\t<=86400000):Vf Hw Tryz.prog 11 [.int t] (.lit (.tuple #[.string (BS (Em t.toNat)),.int .i64 0])):=by
 have h:=Wp t.toNat ω
 rwa [Int.toNat_of_nonneg ht.1] at h
theorem AqM {a b:ByteArray} (h:(a.toList==b.toList)=true):a=b:=by
 have h2:=eq_of_beq h
 rw[ByteArray.toList_eq,ByteArray.toList_eq] at h2
 exact ByteArray.ext (Array.toList_inj.1 h2)
theorem AqN {a b:ByteArray} (h:(a.toList==b.toList)=false):a≠b:=λe=>by
 rw[e] at h
 simp at h
theorem kS (s:ByteArray):Vf Hw Tryz.prog 12 [.lit (.string s)] (Kg s):=by
 refine Kc Ew func12 rfl λB D0 hA0 hT=>?_
 refine Ae 10 (Bo (.int .i64 (ByteArray.size s:Int)) (.int .i64 (ByteArray.size s:Int)) (Ae 3 (wJ 13 ((ByteArray.size s:Int)=12) (λhx1 hx1d=>?_) (λhx1 hx1d=>?_))))
 ·
  refine Ae 20 (Mg 4 (Ae 13 (Bo (.agg #[.int .i64 0,.int .i64 2,.int .i64 3600000]) (.agg #[.int .i64 0,.int .i64 2,.int .i64 3600000]) (Ae 11 (Ci (.lit (.string (s.extract 0 2))) .none (dX 9 (.tmp 23) (.tmp 25) (.tmp 27) s 0 2 0 2 κ underlying9 κ κ κ rfl rfl ω ω) (AbR hT (s.extract 0 2) (by rw[ByteArray.size_extract];omega) (λv0 ha0=>?_) (λha0 n0 N0=>?_)))))))
  ·
   refine Ae 11 (Bo (.bool false) (.bool false) (Ae 6 (Fy 37 (v0<0) (λhx2 hx2d=>?_) (λhx2 hx2d=>?_))))
   ·
    exact Ae 14 (Eb (.lit (.tuple #[.int .i64 0,.int .i64 6])) (ApU (eA ha0 hx2d)))
   ·
    refine Ae 8 (Bo (.int .i64 (IntKind.wrap .i64 (v0*3600000))) (.int .i64 (IntKind.wrap .i64 (v0*3600000))) (Bo (.int .i64 (IntKind.wrap .i64 ((0:Int)+IntKind.wrap .i64 (v0*3600000)))) (.int .i64 (Dv 0 v0 3600000)) ?_ rfl))
    refine Ae 5 (Bo (.int .i64 1) (.int .i64 1) (Ae 16 (Bo (.agg #[.int .i64 3,.int .i64 5,.int .i64 60000]) (.agg #[.int .i64 3,.int .i64 5,.int .i64 60000]) (Ae 11 (Ci (.lit (.string (s.extract 3 5))) .none (dX 9 (.tmp 23) (.tmp 25) (.tmp 27) s 3 5 3 5 κ underlying9 κ κ κ rfl rfl ω ω) (AbR hT (s.extract 3 5) (by rw[ByteArray.size_extract];omega) (λv1 ha1=>?_) (λha1 n1 N1=>?_)))))))
    ·
     refine Ae 11 (Bo (.bool false) (.bool false) (Ae 6 (Fy 37 (v1<0) (λhx3 hx3d=>?_) (λhx3 hx3d=>?_))))
     ·
      exact Ae 14 (Eb (.lit (.tuple #[.int .i64 0,.int .i64 6])) (ApV (eA ha1 hx3d)))
     ·
      refine Ae 8 (Bo (.int .i64 (IntKind.wrap .i64 (v1*60000))) (.int .i64 (IntKind.wrap .i64 (v1*60000))) (Bo (.int .i64 (IntKind.wrap .i64 (Dv 0 v0 3600000+IntKind.wrap .i64 (v1*60000)))) (.int .i64 (Dv (Dv 0 v0 3600000) v1 60000)) ?_ rfl))
      refine Ae 5 (Bo (.int .i64 2) (.int .i64 2) (Ae 16 (Bo (.agg #[.int .i64 6,.int .i64 8,.int .i64 1000]) (.agg #[.int .i64 6,.int .i64 8,.int .i64 1000]) (Ae 11 (Ci (.lit (.string (s.extract 6 8))) .none (dX 9 (.tmp 23) (.tmp 25) (.tmp 27) s 6 8 6 8 κ underlying9 κ κ κ rfl rfl ω ω) (AbR hT (s.extract 6 8) (by rw[ByteArray.size_extract];omega) (λv2 ha2=>?_) (λha2 n2 N2=>?_)))))))
      ·
       refine Ae 11 (Bo (.bool false) (.bool false) (Ae 6 (Fy 37 (v2<0) (λhx4 hx4d=>?_) (λhx4 hx4d=>?_))))
       ·
        exact Ae 14 (Eb (.lit (.tuple #[.int .i64 0,.int .i64 6])) (ApW (eA ha2 hx4d)))
       ·
        refine Ae 8 (Bo (.int .i64 (IntKind.wrap .i64 (v2*1000))) (.int .i64 (IntKind.wrap .i64 (v2*1000))) (Bo (.int .i64 (IntKind.wrap .i64 (Dv (Dv 0 v0 3600000) v1 60000+IntKind.wrap .i64 (v2*1000)))) (.int .i64 (Dv (Dv (Dv 0 v0 3600000) v1 60000) v2 1000)) ?_ rfl))
        refine Ae 5 (Bo (.int .i64 3) (.int .i64 3) (Ae 16 (Bo (.agg #[.int .i64 9,.int .i64 12,.int .i64 1]) (.agg #[.int .i64 9,.int .i64 12,.int .i64 1]) (Ae 11 (Ci (.lit (.string (s.extract 9 12))) .none (dX 9 (.tmp 23) (.tmp 25) (.tmp 27) s 9 12 9 12 κ underlying9 κ κ κ rfl rfl ω ω) (AbR hT (s.extract 9 12) (by rw[ByteArray.size_extract];omega) (λv3 ha3=>?_) (λha3 n3 N3=>?_)))))))
        ·
         refine Ae 11 (Bo (.bool false) (.bool false) (Ae 6 (Fy 37 (v3<0) (λhx5 hx5d=>?_) (λhx5 hx5d=>?_))))
         ·
          exact Ae 14 (Eb (.lit (.tuple #[.int .i64 0,.int .i64 6])) (ApX (eA ha3 hx5d)))
         ·
          refine Ae 8 (Bo (.int .i64 (IntKind.wrap .i64 (v3*1))) (.int .i64 (IntKind.wrap .i64 (v3*1))) (Bo (.int .i64 (IntKind.wrap .i64 (Dv (Dv (Dv 0 v0 3600000) v1 60000) v2 1000+IntKind.wrap .i64 (v3*1)))) (.int .i64 (Dv (Dv (Dv (Dv 0 v0 3600000) v1 60000) v2 1000) v3 1)) ?_ rfl))
          refine Ae 5 (Bo (.int .i64 4) (.int .i64 4) (Ae 19 (vsp (0<=(Dv (Dv (Dv (Dv 0 v0 3600000) v1 60000) v2 1000) v3 1)/\(Dv (Dv (Dv (Dv 0 v0 3600000) v1 60000) v2 1000) v3 1)<=86400000) (λhx6 hx6d=>?_) (λhx6 hx6d=>?_))))
          ·
           refine Gu hT (Wo (Dv (Dv (Dv (Dv 0 v0 3600000) v1 60000) v2 1000) v3 1) hx6d) ?_
           refine Ae 14 (Bo (.bool (!((BS (Em (Int.toNat (Dv (Dv (Dv (Dv 0 v0 3600000) v1 60000) v2 1000) v3 1)))).toList==s.toList))) (.bool (!((BS (Em (Int.toNat (Dv (Dv (Dv (Dv 0 v0 3600000) v1 60000) v2 1000) v3 1)))).toList==s.toList))) (Ae 3 (wH 56 ((BS (Em (Int.toNat (Dv (Dv (Dv (Dv 0 v0 3600000) v1 60000) v2 1000) v3 1)))).toList==s.toList) (λhx7=>?_) (λhx7=>?_))))
           ·
            exact Ae 11 (Eb (.lit (.tuple #[.int .i64 (Dv (Dv (Dv (Dv 0 v0 3600000) v1 60000) v2 1000) v3 1),.int .i64 0])) (ApY ω (dZ (Mc ha0 hx2d) (Mc ha1 hx3d) (Mc ha2 hx4d) (Mc ha3 hx5d)) hx6d (AqM hx7)))
           ·
            exact Ae 9 (Eb (.lit (.tuple #[.int .i64 0,.int .i64 6])) (Al2 (dZ (Mc ha0 hx2d) (Mc ha1 hx3d) (Mc ha2 hx4d) (Mc ha3 hx5d)) (AqN hx7)))
          ·
           exact Ao (Aci (Dv (Dv (Dv (Dv 0 v0 3600000) v1 60000) v2 1000) v3 1) hx6d) (Ae 27 (Eb (.lit (.tuple #[.int .i64 0,.int .i64 6])) (Aoz (dZ (Mc ha0 hx2d) (Mc ha1 hx3d) (Mc ha2 hx4d) (Mc ha3 hx5d)) hx6d)))
        ·
         exact Ae 11 (Bo (.bool true) (.bool true) (Ae 20 (Eb (.lit (.tuple #[.int .i64 0,.int .i64 6])) (ApX (qG ha3)))))
      ·
       exact Ae 11 (Bo (.bool true) (.bool true) (Ae 20 (Eb (.lit (.tuple #[.int .i64 0,.int .i64 6])) (ApW (qG ha2)))))
    ·
     exact Ae 11 (Bo (.bool true) (.bool true) (Ae 20 (Eb (.lit (.tuple #[.int .i64 0,.int .i64 6])) (ApV (qG ha1)))))
  ·
   exact Ae 11 (Bo (.bool true) (.bool true) (Ae 20 (Eb (.lit (.tuple #[.int .i64 0,.int .i64 6])) (ApU (qG ha0)))))
 ·
  exact Ae 9 (Eb (.lit (.tuple #[.int .i64 0,.int .i64 6])) (Al3 ω))
def Sm (n:Int):Prop:= -4194304<=n/\n<=4194304
theorem Qq (n:Int) (h:Sm n):Vf Hw Tryz.prog 34 [.int n] (SA (Lib.itoa n)):=nV (vs:=[.int .i64 n]) λw hT _=>by
 unfold Sm at h
 exact(Tryz.strconv_Itoa n ω ω w hT).mono λe w' ⟨he,k,os,hw⟩=>⟨he,by rw[hw];exact Lib.below_grow _ w ζ k os⟩
theorem AbY (n:Int) (h:Sm n):Vf Hw Tryz.prog 27 [SA (Lib.itoa n)] (.lit (.tuple #[.int .i64 n,.nilIface])):=nV (vs:=[.string (BS (Lib.itoa n))]) λw _ _=>by
 have hl:(BS (Lib.itoa n)).size<=21:=Hf h
 unfold Sm at h
 refine(Tryz.strconv_Atoi_ok (BS (Lib.itoa n)) ω n (AcF ω ω) w).mono ?_
 rintro e w1 ⟨he,hw1⟩
 refine⟨he,?_⟩
 rcases hw1 with h|⟨t,h⟩
 rw[h];exact Below.refl _ _
 rw[h];exact Lib.bytesWorld_below _ _ _
theorem kT (c:UInt8) (L:List (List UInt8)) (hne:L≠[]) (h:∀x∈L,c ∉ x) (hs:(jn c L).length<=1000000):Vf Hw Tryz.prog 21 [SA (jn c L),.lit (.string ⟨#[c]⟩)] (.slc 1 L.length λk=>SA (L.getD k [])):=Afi λE us hT hD hn hv=>by
 have:us=#[.string (BS (jn c L)),.string ⟨#[c]⟩]:=VR.lits (E:=E.fz) (l:=[.string (BS (jn c L)),.string ⟨#[c]⟩]) (by simpa using hn) (VR.tops hv)
 subst this
 obtain⟨m,hm⟩:=hT.max
 refine(Tryz.strings_Split (BS (jn c L)) ⟨#[c]⟩ m E.w (by have:(BS (jn c L)).size<=1000000:=hs;omega) hm (Nat.le_refl 1)).mono ?_
 rintro e w' ⟨he,hw⟩
 have hl:=Lib.splitB_all ⟨#[c]⟩ (Nat.le_refl 1) 0 _ (BS (jn c L)) rfl
 rw[vP c L hne h,List.length_map] at hl
 rw[vP c L hne h] at hw
 rw[<-hl] at he
 refine⟨_,he,by rw[hw];exact Ψ.alloc ζ _,λE' hE hD1 hD2=>?_⟩
 have hp:0<L.length:=List.length_pos_iff.2 hne
 refine .slc _ _ _ _ _ _ ω (.sl _ _ _ _ _ _ _ (λi _=> .string (BS (L.getD i []))) hp (hD2 _ ζ (by rw[hw];simp)) (λi j hi hj=>?_) λi j hi hj=>?_)
 obtain rfl:j=0:=by omega
 rw[hE,hw]
 rw[World.cell?_alloc_new]
 simp[List.getElem?_eq_getElem hi]
 obtain rfl:j=0:=by omega
 exact .lit _ _
theorem Ik:AF Tryz.prog 22 [.bool true] (.lit (.tuple #[])):=by
 refine Au func22 rfl λB D0 hA0=>?_
 exact Ae 8 (Cm)
theorem Jh (n:Int) (h:Sm n):Vf Hw Tryz.prog 23 [SA (Lib.itoa n)] (.int n):=by
 refine Kc Ew func23 rfl λB D0 hA0 hT=>?_
 refine Ae 8 (Gu hT (AbY n h) ?_)
 refine Ae 10 (Bo (.bool true) (.bool true) (Ae 2 (Gu hT (Qq n h) ?_)))
 refine Ae 1 (Bo (.bool ((BS (Lib.itoa n):ByteArray).toList==(BS (Lib.itoa n):ByteArray).toList)) (.bool true) ?_ (congrArg Value.bool (beq_self_eq_true _)))
 exact Ae 1 (Ao Ik (Ae 9 (Cm)))
theorem kQ (w:List UInt8) (hw:w.length<=100):Vf Hw Tryz.prog 19 [SA w,.lit (.slice none 0 0)] (SA (w++[10])):=by
 refine Kc Ew func19 rfl λB D0 hA0 hT=>?_
 exact Ae 14 (Mg 0 (Ae 15 (Ci (.lit (.string (BS (w++([10]))))) .none (Dg 9 9 (.tmp 19) (.const (.string ⟨#[10]⟩)) w ([10]) κ κ κ (by simp only[List.length_cons,List.length_nil];omega)) (Ae 4 (Cm)))))
theorem Vg (w:List UInt8) (hw:w.length<=100) (a:Int) (ha:Sm a):Vf Hw Tryz.prog 19 [SA w,.sl 1 1 λ_=> .int a] (SA (w++([32]++Lib.itoa a)++[10])):=by
 have hla:=Hf ha
 refine Kc Ew func19 rfl λB D0 hA0 hT=>?_
 refine Ae 14 (Mg 1 (Ae 13 (Fd 0 1 (Ae 7 (Gu hT (Qq a ha) ?_)))))
 exact Ci (.lit (.string (BS (([32])++(Lib.itoa a))))) .none (Dg 9 9 (.const (.string ⟨#[32]⟩)) (.tmp 15) ([32]) (Lib.itoa a) κ κ κ (by simp only[List.length_cons,List.length_nil];omega)) (Ci (.lit (.string (BS (w++(([32])++(Lib.itoa a)))))) .none (Dg 9 9 (.tmp 13) (.tmp 16) w (([32])++(Lib.itoa a)) κ κ κ (by simp only[List.length_append,List.length_cons,List.length_nil];omega)) (Ae 5 (Bo (.int .i64 1) (.int .i64 1) (Ae 18 (Ci (.lit (.string (BS ((w++(([32])++(Lib.itoa a)))++([10]))))) .none (Dg 9 9 (.tmp 19) (.const (.string ⟨#[10]⟩)) (w++(([32])++(Lib.itoa a))) ([10]) κ κ κ (by simp only[List.length_append,List.length_cons,List.length_nil];omega)) (Ae 4 (Cm)))))))
theorem kR (w:List UInt8) (hw:w.length<=100) (a b c:Int) (ha:Sm a) (hb:Sm b) (hc:Sm c):Vf Hw Tryz.prog 19 [SA w,.sl 1 3 λxi=>([.int a,.int b,.int c]:List AV).getD xi .top] (SA (w++([32]++Lib.itoa a)++([32]++Lib.itoa b)++([32]++Lib.itoa c)++[10])):=by
 have hla:=Hf ha
 have hlb:=Hf hb
 have hlc:=Hf hc
 refine Kc Ew func19 rfl λB D0 hA0 hT=>?_
 refine Ae 14 (Mg 3 (Ae 13 (Fd 0 3 (Ae 7 (Gu hT (Qq a ha) ?_)))))
 refine Ci (.lit (.string (BS (([32])++(Lib.itoa a))))) .none (Dg 9 9 (.const (.string ⟨#[32]⟩)) (.tmp 15) ([32]) (Lib.itoa a) κ κ κ (by simp only[List.length_cons,List.length_nil];omega)) (Ci (.lit (.string (BS (w++(([32])++(Lib.itoa a)))))) .none (Dg 9 9 (.tmp 13) (.tmp 16) w (([32])++(Lib.itoa a)) κ κ κ (by simp only[List.length_append,List.length_cons,List.length_nil];omega)) (Ae 5 (Bo (.int .i64 1) (.int .i64 1) (Ae 16 (Fd 1 3 (Ae 7 (Gu hT (Qq b hb) ?_)))))))
 refine Ci (.lit (.string (BS (([32])++(Lib.itoa b))))) .none (Dg 9 9 (.const (.string ⟨#[32]⟩)) (.tmp 15) ([32]) (Lib.itoa b) κ κ κ (by simp only[List.length_cons,List.length_nil];omega)) (Ci (.lit (.string (BS ((w++(([32])++(Lib.itoa a)))++(([32])++(Lib.itoa b)))))) .none (Dg 9 9 (.tmp 13) (.tmp 16) (w++(([32])++(Lib.itoa a))) (([32])++(Lib.itoa b)) κ κ κ (by simp only[List.length_append,List.length_cons,List.length_nil];omega)) (Ae 5 (Bo (.int .i64 2) (.int .i64 2) (Ae 16 (Fd 2 3 (Ae 7 (Gu hT (Qq c hc) ?_)))))))
 exact Ci (.lit (.string (BS (([32])++(Lib.itoa c))))) .none (Dg 9 9 (.const (.string ⟨#[32]⟩)) (.tmp 15) ([32]) (Lib.itoa c) κ κ κ (by simp only[List.length_cons,List.length_nil];omega)) (Ci (.lit (.string (BS (((w++(([32])++(Lib.itoa a)))++(([32])++(Lib.itoa b)))++(([32])++(Lib.itoa c)))))) .none (Dg 9 9 (.tmp 13) (.tmp 16) ((w++(([32])++(Lib.itoa a)))++(([32])++(Lib.itoa b))) (([32])++(Lib.itoa c)) κ κ κ (by simp only[List.length_append,List.length_cons,List.length_nil];omega)) (Ae 5 (Bo (.int .i64 3) (.int .i64 3) (Ae 18 (Ci (.lit (.string (BS ((((w++(([32])++(Lib.itoa a)))++(([32])++(Lib.itoa b)))++(([32])++(Lib.itoa c)))++([10]))))) .none (Dg 9 9 (.tmp 19) (.const (.string ⟨#[10]⟩)) (((w++(([32])++(Lib.itoa a)))++(([32])++(Lib.itoa b)))++(([32])++(Lib.itoa c))) ([10]) κ κ κ (by simp only[List.length_append,List.length_cons,List.length_nil];omega)) (Ae 4 (Cm)))))))
theorem Aiw:∀n,n<100->cI (BS (Cd n 2))=some (n:Int):=by decide+kernel
theorem ApR:∀n,n<1000->cI (BS (Cd n 3))=some (n:Int):=by decide+kernel
theorem Ag7 (t:Nat):(BS (Em t)).extract 0 2=BS (Cd (t/3600000) 2):=by rw[ByteArray.extract_mk];rfl
theorem Ag8 (t:Nat):(BS (Em t)).extract 3 5=BS (Cd (t/60000%60) 2):=by rw[ByteArray.extract_mk];rfl
theorem Ag9 (t:Nat):(BS (Em t)).extract 6 8=BS (Cd (t/1000%60) 2):=by rw[ByteArray.extract_mk];rfl
theorem AgA (t:Nat):(BS (Em t)).extract 9 12=BS (Cd (t%1000) 3):=by rw[ByteArray.extract_mk];rfl
theorem dO {t v k:Int} (h1:0<=t/\t<=100000000) (h2:0<=v*k/\v*k<=100000000):Dv t v k=t+v*k:=by
 unfold Dv
 rw[IntWalk.i64_in (v*k) ω,IntWalk.i64_in _ ω]
theorem uX {t:Nat} (h:t<=86400000):Nz (BS (Em t))=some t:=by
 have e0:=Aiw (t/3600000) ω
 have e1:=Aiw (t/60000%60) ω
 have e2:=Aiw (t/1000%60) ω
 have e3:=ApR (t%1000) ω
 rw[<-Ag7] at e0
 rw[<-Ag8] at e1
 rw[<-Ag9] at e2
 rw[<-AgA] at e3
 have hT:=dZ e0 e1 e2 e3
 have s0:Dv 0 ((t/3600000:Nat):Int) 3600000=((t/3600000*3600000:Nat):Int):=by rw[dO ω ω];omega
 have s1:Dv ((t/3600000*3600000:Nat):Int) ((t/60000%60:Nat):Int) 60000=((t/60000*60000:Nat):Int):=by rw[dO ω ω];omega
 have s2:Dv ((t/60000*60000:Nat):Int) ((t/1000%60:Nat):Int) 1000=((t/1000*1000:Nat):Int):=by rw[dO ω ω];omega
 have s3:Dv ((t/1000*1000:Nat):Int) ((t%1000:Nat):Int) 1=(t:Int):=by rw[dO ω ω];omega
 rw[s0,s1,s2,s3] at hT
 unfold Nz
 rw[if_pos (show (BS (Em t)).size=12 from Sa t),hT]
 exact if_pos ⟨ω,ω,by rw[Int.toNat_natCast]⟩
end Go.Proofs.YtkpjchfniejdoaaGreatDoor