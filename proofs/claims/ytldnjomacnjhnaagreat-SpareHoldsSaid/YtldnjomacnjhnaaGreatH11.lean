/- Part 11 of the proof of SH.row_holds, joined by program: no condition beyond the row's own. -/
import Derived.Test.YtldnjomacnjhnaaGreatH10
set_option maxRecDepth 100000
set_option maxHeartbeats 40000000
namespace Go.Proofs.YtldnjomacnjhnaaGreat
open Go.Proofs.Tryz
open Go.RowKit
def Dp:Nat->Nat->Nat
 |_,0=>1
 |0,_+1=>0
 |n+1,k+1=>Dp n k+Dp n (k+1)
def Qo (n k:Nat):List Int:=(List.range 36).map λi=>if i/6<n\/(i/6=n/\i%6<k) then (Dp (i/6) (i%6):Int) else 0
theorem Gf (n k:Nat):(Qo n k).length=36:=by simp[Qo]
theorem eP:Qo 0 0=List.replicate 36 0:=by decide
theorem tS:∀n,n<6->∀k,k<6->(Qo n k).set (n*6+k) (Dp n k)=Qo n (k+1):=by decide
theorem tR:∀n,n<6->∀k,k<6->∀m,m<n->∀j,j<6->(Qo n k).getD (m*6+j) 0=Dp m j:=by decide
theorem AcU (n:Nat) (h:n<6):∀d,n+1+d=6->Qo n (n+1)=Qo (n+1) 0:=by
 intro d hd
 have:∀n,n<6->Qo n (n+1)=Qo (n+1) 0:=by decide
 exact this n h
def Ho (w:World) (b:Nat) (t:TypeId) (l:List Int):Prop:=w.heap[b]?=some (.cells (Dg l).toArray t (0,0))
theorem Ho.cell {w:World} {b:Nat} {t:TypeId} {l:List Int} (h:Ho w b t l) {i:Nat} (hi:i<l.length):w.cell? ⟨b,i,none⟩=some (.int .i64 (l.getD i 0)):=by
 simp[World.cell?,show w.heap[b]?=_ from h,Dg,hi]
theorem Ho.frozen {w:World} {b:Nat} {t:TypeId} {l:List Int} (h:Ho w b t l) (i:Nat):w.frozen? ⟨b,i,none⟩=false:=by
 simp[World.frozen?,show w.heap[b]?=_ from h]
theorem Ho.set {w:World} {b:Nat} {t:TypeId} {l:List Int} (h:Ho w b t l) (i:Nat) (x:Int):Ho (w.setCell ⟨b,i,none⟩ (.int .i64 x)) b t (l.set i x):=by
 unfold Ho at*
 simp[World.setCell,Array.getElem?_modify,h,Dg,List.map_set]
theorem Ho.other {w:World} {b:Nat} {t:TypeId} {l:List Int} (h:Ho w b t l) (p:Addr) (u:Value) (hp:b≠p.block):Ho (w.setCell p u) b t l:=(Below.heap_setCell w p u b hp).trans h
theorem Wl {P:Program} {T:TypeId} {b o:Nat} (cs:List Value) (w:World) (hT:(isAgg T).run P w= .ok true w) (hn:(sizeOf T).run P w= .ok cs.length w) (hc:∀j u,cs[j]?=some u->w.cell? ⟨b,o+j,none⟩=some u):
  (loadVar T ⟨b,o,none⟩).run P w= .ok (.agg cs.toArray) w:=by
 have:=Qa (P:=P) (w:=w) (b:=b) (o:=o) cs 0 #[] (λj u hu=>by rw[Nat.zero_add];exact hc j u hu)
 simp[loadVar,hT,hn,loadCells,this]
theorem sF {P:Program} {T:TypeId} {b:Nat} (cs:List Value) (w:World) (hn:(sizeOf T).run P w= .ok cs.length w) (hc:∀j,j<cs.length->(w.cell? ⟨b,j,none⟩).isSome=true) (hf:∀j,j<cs.length->w.frozen? ⟨b,j,none⟩=false) (h1:∀v∈cs,v.oneCell'=true):
  (Instr.storeAt T (.pointer (some ⟨b,0,none⟩)) (.agg cs.toArray)).run P w= .ok () (w.setCells b 0 cs):=by
 have hs:=run_storeCells_cells (P:=P) b 0 cs 0 w (by simpa using hc) (by simpa using hf) h1
 simp[Instr.storeAt,Instr.sureAddr,storeVar,hn,Value.cells,hs]
theorem Yz {P:Program} {w:World} {ops:Array Oper} {rest:List Oper} {o:Oper} {a:Act} {Q:Exit->Act->World->Prop} (hgd:o.guard=none) (T:TypeId) (x:Operand) (ho:o.op= .load T x) (b:Nat) (cs:List Value) (hx:a.eval x= .pointer (some ⟨b,0,none⟩))
  (hT:(isAgg T).run P w= .ok true w) (hn:(sizeOf T).run P w= .ok cs.length w) (hc:∀j u,cs[j]?=some u->w.cell? ⟨b,0+j,none⟩=some u) (h:wpList P ops Q rest (a.put o.dst (.agg cs.toArray)) w):wpList P ops Q (o::rest) a w:=by
 refine wpList_plain hgd λK hK=>?_
 have hrun:=Dq (P:=P) (T:=T) (b:=b) (o:=0) cs w hT hn hc
 unfold Oper.wp
 simp[execOp,ho,hx,hrun,Result.andThen]
 exact hK _ _ h
theorem Ph {P:Program} {w:World} {ops:Array Oper} {rest:List Oper} {o:Oper} {a:Act} {Q:Exit->Act->World->Prop} (hgd:o.guard=none) (hd:o.dst=none) (T:TypeId) (x y:Operand) (ho:o.op= .store T x y) (b:Nat) (cs:List Value) (hx:a.eval x= .pointer (some ⟨b,0,none⟩)) (hy:a.eval y= .agg cs.toArray)
  (hn:(sizeOf T).run P w= .ok cs.length w) (hc:∀j,j<cs.length->(w.cell? ⟨b,j,none⟩).isSome=true) (hf:∀j,j<cs.length->w.frozen? ⟨b,j,none⟩=false) (h1:∀v∈cs,v.oneCell'=true) (h:wpList P ops Q rest a (w.setCells b 0 cs)):wpList P ops Q (o::rest) a w:=by
 refine wpList_plain hgd λK hK=>?_
 have hrun:=sF (P:=P) (T:=T) (b:=b) cs w hn hc hf h1
 unfold Oper.wp
 simp[execOp,ho,hx,hy,hrun,Result.andThen]
 have e:a.put o.dst undef=a:=by rw[hd];rfl
 have h2:=hK _ _ h
 rw[<-e] at h2
 exact h2
theorem Ho.load {w:World} {b:Nat} {t:TypeId} {l:List Int} (h:Ho w b t l):∀j u,(Dg l)[j]?=some u->w.cell? ⟨b,0+j,none⟩=some u:=λj u hu=>by
 rw[Nat.zero_add]
 simp only[World.cell?,show w.heap[b]?=_ from h]
 simpa using hu
theorem bD (l:List Int):∀v∈Dg l,v.oneCell'=true:=by
 intro v hv
 obtain⟨x,_,rfl⟩:=List.mem_map.1 hv
 rfl
theorem Wp (w:World):(sizeOf 209).run Tryz.prog w= .ok (Dg (Qo 6 0)).length w:=by kernel_rfl
theorem vO (w:World):(isAgg 209).run Tryz.prog w= .ok true w:=by kernel_rfl
structure ChJ (w:World) (n k:Nat) (wr:World):Prop where
 tab:Ho wr (w.heap.size+1) 209 (Qo n k)
 res:Ho wr w.heap.size 209 (Qo 0 0)
 below:Below w.heap.size w wr
def AdV:Value:= .agg (Dg (Qo 6 0)).toArray
theorem mI (w:World):Calls Tryz.prog 146 #[] w λe w'=>e= .returned AdV/\Below w.heap.size w w':=by
 go_enter func146,ntmps146
 go_upto_region 2 with fail
 obtain⟨W,hW⟩:∃W,W=(w.alloc (.cells (Dg (Qo 0 0)).toArray 209)).alloc (.cells (Dg (Qo 0 0)).toArray 209):=⟨_,rfl⟩
 have h2:=Od w (.cells (Dg (Qo 0 0)).toArray 209) (.cells (Dg (Qo 0 0)).toArray 209)
 rw[<-hW] at h2
 have HJ0:Hid (ChJ w 0 0 W):=⟨h2.2,h2.1,by rw[hW];exact((Below.refl _ _).alloc (Nat.le_refl _) _).alloc (by simp) _⟩
 have hlit:((Dg (Qo 0 0)).toArray:Array Value)=#[.int .i64 0,.int .i64 0,.int .i64 0,.int .i64 0,.int .i64 0,.int .i64 0,.int .i64 0,.int .i64 0,.int .i64 0,.int .i64 0,.int .i64 0,.int .i64 0,.int .i64 0,.int .i64 0,.int .i64 0,.int .i64 0,.int .i64 0,.int .i64 0,.int .i64 0,.int .i64 0,.int .i64 0,.int .i64 0,.int .i64 0,.int .i64 0,.int .i64 0,.int .i64 0,.int .i64 0,.int .i64 0,.int .i64 0,.int .i64 0,.int .i64 0,.int .i64 0,.int .i64 0,.int .i64 0,.int .i64 0,.int .i64 0]:=by rw[eP];rfl
 rw[hlit] at hW
 rw[<-hW]
 clear hW h2 hlit
 go_wp2_with fail
 go_loopw [2,3,4] (λ_ _ iv wr=>∃n:Nat,n<=6/\iv= .int .i64 (n:Int)/\Hid (ChJ w n 0 wr)) (λ_ _ iv _=>6-(intOf iv).toNat)
 case atStart=>exact⟨0,ω,rfl,HJ0⟩
 case round=>
  obtain⟨n,hn,rfl,HJ⟩:=hrel
  clear HJ0
  by_cases hn6:n=6
  ·
   subst hn6
   have HT:=Lib.hid HJ.out.tab
   have HR:=Lib.hid HJ.out.res
   have HBW:=Lib.hid HJ.out.below
   clear HJ
   go_wp2_with (first
    |(refine Yz rfl 209 (.tmp 1) rfl (w.heap.size+1) (Dg (Qo 6 0)) rfl (vO _) (Wp _) HT.out.load ?_)
    |(refine Ph rfl rfl 209 (.tmp 0) (.tmp 34) rfl w.heap.size (Dg (Qo 6 0)) rfl rfl (Wp _) ?_ ?_ (bD _) ?_))
   ·
    intro j hj
    rw[HR.out.cell (by simpa [Dg,Gf] using hj)];rfl
   · intro j _;exact HR.out.frozen j
   ·
    have hcell:∀j u,(Dg (Qo 6 0))[j]?=some u->(wr.setCells w.heap.size 0 (Dg (Qo 6 0))).cell? ⟨w.heap.size,0+j,none⟩=some u:=by
     intro j u hu
     have hj:=(List.getElem?_eq_some_iff.1 hu).1
     have:=World.cell?_setCells_in w.heap.size (Dg (Qo 6 0)) 0 wr (λj hj=>by rw[Nat.zero_add,HR.out.cell (by simpa [Dg,Gf] using hj)];rfl) j hj
     rw[this,<-hu,List.getElem?_eq_getElem hj]
    have hl:=Wl (P:=Tryz.prog) (T:=209) (b:=w.heap.size) (o:=0) (Dg (Qo 6 0)) _ (vO _) (Wp _) hcell
    refine bodyPost_ret (v:=AdV) (by simp[results,results146,Act.put,asAddr,hl,AdV]) rfl ?_
    exact⟨rfl,Ge (Nat.le_refl _) _ _ HBW.out⟩
  ·
   have hnl:n<6:=by omega
   have hni:(n:Int)<6:=by omega
   have c0:=HJ.out.tab.cell (i:=n*6) (by rw[Gf];omega)
   have f0:=HJ.out.tab.frozen (n*6)
   have HJ1:Hid (ChJ w n 1 (wr.setCell ⟨w.heap.size+1,n*6,none⟩ (.int .i64 1))):=by
    refine⟨?_,HJ.out.res.other _ _ (by show w.heap.size≠w.heap.size+1;omega),HJ.out.below.setCell (by show w.heap.size<=w.heap.size+1;omega) _⟩
    have:=HJ.out.tab.set (n*6) 1
    have h3:=tS n hnl 0 ω
    rw[Nat.add_zero,show ((Dp n 0:Nat):Int)=1 by cases n<;>rfl] at h3
    rw[h3] at this
    exact this
   generalize (Qo n 0).getD (n*6) 0=z at*
   go_wp2_with fail
   clear HJ c0 f0
   go_loopw [3] (λkv wr=>∃k:Nat,1<=k/\k<=n+1/\kv= .int .i64 (k:Int)/\Hid (ChJ w n k wr)) (λkv _=>n+1-(intOf kv).toNat)
   case atStart=>exact⟨1,ω,ω,rfl,HJ1⟩
   case round=>
    obtain⟨k,hk1,hkn,rfl,HJ⟩:=hrel
    clear HJ1
    by_cases hkk:k=n+1
    ·
     subst hkk
     have HNX:Hid (ChJ w (n+1) 0 wr):=by
      have h1:=HJ.out
      refine⟨?_,h1.res,h1.below⟩
      rw[<-AcU n hnl (5-n) ω];exact h1.tab
     have hle:¬((n:Int)+1)<=(n:Int):=by omega
     clear HJ
     go_wp2_with fail
     exact⟨⟨n+1,ω,rfl,HNX⟩,by simp only[intOf];omega⟩
    ·
     have hkl:k<=n:=by omega
     have hki:(k:Int)<=(n:Int):=by omega
     obtain⟨m,hm⟩:∃m,n=m+1:=⟨n-1,ω⟩
     obtain⟨j,hj⟩:∃j,k=j+1:=⟨k-1,ω⟩
     have hmw:IntKind.i64.wrap ((n:Int)-1)=(m:Int):=by rw[IntWalk.i64_in _ ω];omega
     have hjw:IntKind.i64.wrap ((k:Int)-1)=(j:Int):=by rw[IntWalk.i64_in _ ω];omega
     have hmi:(m:Int)<6:=by omega
     have hji:(j:Int)<6:=by omega
     have hki6:(k:Int)<6:=by omega
     have ga:wr.cell? ⟨w.heap.size+1,m*6+j,none⟩=some (.int .i64 (Dp m j:Int)):=by
      rw[HJ.out.tab.cell (by rw[Gf];omega),tR n hnl k ω m ω j ω]
     have gb:wr.cell? ⟨w.heap.size+1,m*6+k,none⟩=some (.int .i64 (Dp m k:Int)):=by
      rw[HJ.out.tab.cell (by rw[Gf];omega),tR n hnl k ω m ω k ω]
     have gc:=HJ.out.tab.cell (i:=n*6+k) (by rw[Gf];omega)
     have gf:=HJ.out.tab.frozen (n*6+k)
     have HNX:Hid (ChJ w n (k+1) (wr.setCell ⟨w.heap.size+1,n*6+k,none⟩ (.int .i64 (Dp n k:Int))).drew):=by
      refine⟨?_,(HJ.out.res.other _ _ (by show w.heap.size≠w.heap.size+1;omega):Ho _ _ _ _),(HJ.out.below.setCell (by show w.heap.size<=w.heap.size+1;omega) _).drew⟩
      have:=HJ.out.tab.set (n*6+k) (Dp n k:Int)
      rw[tS n hnl k ω] at this
      exact this
     have hsum:IntKind.i64.wrap ((Dp m j:Int)+(Dp m k:Int))=(Dp n k:Int):=by
      have hb:∀m,m<6->∀j,j<6->Dp m j<=100:=by decide
      have h1:=hb m ω j ω
      have h2:=hb m ω k ω
      rw[IntWalk.i64_in _ ω,hm,hj];rfl
     have hk6:k<6:=by omega
     have hm6:m<6:=by omega
     have hj6:j<6:=by omega
     clear hm hj
     generalize (Qo n k).getD (n*6+k) 0=zz at*
     generalize Dp m j=ca at*
     generalize Dp m k=cb at*
     generalize Dp n k=cc at*
     clear HJ
     go_wp2_with fail
     go_region
     obtain⟨w3,hw3⟩:∃w3,w3=(wr.setCell ⟨w.heap.size+1,n*6+k,none⟩ (.int .i64 (cc:Int))).drew:=⟨_,rfl⟩
     rw[<-hw3] at HNX ⊢
     clear hw3 ga gb gc gf
     go_wp2_with fail
     exact⟨⟨k+1,ω,ω,rfl,HNX⟩,by simp only[intOf];omega⟩
theorem AcQ (w:World):(sizeOf 147).run Tryz.prog w= .ok 3 w:=by kernel_rfl
theorem Ae2 (w:World):(isAgg 147).run Tryz.prog w= .ok true w:=by kernel_rfl
theorem AaG (f t o:Int) (Ax Ay Az:Option Addr) (nx cx ny cy nz cz:Nat) (w:World):
  Calls Tryz.prog 97 #[.agg #[.int .i64 f,.int .i64 t,.int .i64 o,.slice Ax nx cx,.slice Ay ny cy,.slice Az nz cz]] w λe w'=>e= .returned (.agg #[.slice Ax nx cx,.slice Ay ny cy,.slice Az nz cz])/\Below w.heap.size w w':=by
 go_enter func97,ntmps97
 go_upto_region 1 with fail
 go_wp2_with fail
 obtain⟨V,hV⟩:∃V,V=(w.alloc (.cells #[.int .i64 f,.int .i64 t,.int .i64 o,.slice Ax nx cx,.slice Ay ny cy,.slice Az nz cz] 81)).alloc (.cells #[.slice Ax nx cx,.slice Ay ny cy,.slice Az nz cz] 147):=⟨_,rfl⟩
 have h2:=(Od w (.cells #[.int .i64 f,.int .i64 t,.int .i64 o,.slice Ax nx cx,.slice Ay ny cy,.slice Az nz cz] 81) (.cells #[.slice Ax nx cx,.slice Ay ny cy,.slice Az nz cz] 147)).2
 rw[<-hV] at h2
 have hb:Below w.heap.size w V:=by rw[hV];exact((Below.refl _ _).alloc (Nat.le_refl _) _).alloc (by simp) _
 rw[<-hV]
 clear hV
 have hl:=Wl (P:=Tryz.prog) (T:=147) (b:=w.heap.size+1) (o:=0) [.slice Ax nx cx,.slice Ay ny cy,.slice Az nz cz] V (Ae2 V) (AcQ V) (λj u hu=>by
  rw[Nat.zero_add]
  simp only[World.cell?,h2]
  simpa using hu)
 exact bodyPost_ret (v:= .agg #[.slice Ax nx cx,.slice Ay ny cy,.slice Az nz cz]) (by simp[results,results97,asAddr,hl]) rfl ⟨rfl,hb⟩
def Pu (n j k:Nat):Nat:=60/Dp n k*Dp j k
def Mh (l:List Int) (j:Nat):Nat->Int
 |0=>0
 |k+1=>Mh l j k+l.getD k 0*(Pu (l.length-1) j k:Int)
def Xa (l:List Int) (o:Int) (n:Nat):Prop:=∀j,j<n->((Mh l j (j+1)).natAbs:Int)<=62914560*o
theorem qU:∀n,n<6->∀j,j<6->∀k,k<6->Pu n j k<=600:=by decide
theorem qL:∀n,n<6->∀k,k<=n->1<=Dp n k/\Dp n k<=10:=by
 intro n hn k hk
 have:∀n,n<6->∀k,k<6->k<=n->1<=Dp n k/\Dp n k<=10:=by decide
 exact this n hn k ω hk
theorem wW:∀n,n<6->∀k,k<6->Dp n k<=10:=by decide
theorem Xi {z:Int} (h:z.natAbs<2^200):Fp z:=by
 unfold Fp
 exact Nat.le_trans (Gk.2 h) δ
theorem vM {l:List Int} {j:Nat} (hl:l.length<=6) (hj:j<6) (h:∀i,-9223372036854775808<=l.getD i 0/\l.getD i 0<=9223372036854775807):∀k,k<=6->(Mh l j k).natAbs<=k*(9223372036854775808*600)
 |0,_=>by simp[Mh]
 |k+1,hk=>by
  have h1:=vM hl hj h k ω
  have h2:=qU (l.length-1) ω j hj k ω
  have h3:=h k
  have h4:(l.getD k 0).natAbs<=9223372036854775808:=by omega
  have h5:(l.getD k 0*(Pu (l.length-1) j k:Int)).natAbs<=9223372036854775808*600:=by
   rw[Int.natAbs_mul,Int.natAbs_natCast]
   exact Nat.mul_le_mul h4 h2
  have h6:(Mh l j (k+1)).natAbs<=(Mh l j k).natAbs+(l.getD k 0*(Pu (l.length-1) j k:Int)).natAbs:=by
   show (Mh l j k+l.getD k 0*(Pu (l.length-1) j k:Int)).natAbs<=_
   exact Int.natAbs_add_le _ _
  omega
theorem cT {l:List Int} {j k:Nat} (hl:l.length<=6) (hj:j<6) (hk:k<=6) (h:∀i,-9223372036854775808<=l.getD i 0/\l.getD i 0<=9223372036854775807):Fp (Mh l j k):=by
 refine Xi ?_
 have:=vM hl hj h k hk
 have h2:k*(9223372036854775808*600)<=6*(9223372036854775808*600):=Nat.mul_le_mul_right _ hk
 exact Nat.lt_of_le_of_lt (Nat.le_trans this h2) δ
theorem Aci {l:List Int} {n j k:Nat} (hn:n<6) (hj:j<6) (hk:k<6) (h:∀i,-9223372036854775808<=l.getD i 0/\l.getD i 0<=9223372036854775807):Fp (l.getD k 0*(Pu n j k:Int)):=by
 refine Xi ?_
 have h2:=qU n hn j hj k hk
 have h3:=h k
 have h4:(l.getD k 0).natAbs<=9223372036854775808:=by omega
 rw[Int.natAbs_mul,Int.natAbs_natCast]
 exact Nat.lt_of_le_of_lt (Nat.mul_le_mul h4 h2) δ
theorem nU {o:Int} (h0: -9223372036854775808<=o) (h1:o<=9223372036854775807):Fp (62914560*o):=by
 refine Xi ?_
 have h4:o.natAbs<=9223372036854775808:=by omega
 rw[Int.natAbs_mul]
 exact Nat.lt_of_le_of_lt (Nat.mul_le_mul (Nat.le_refl _) h4) δ
theorem AaK {l:List Int} {o:Int} {n:Nat} (h:Xa l o n) (h2:((Mh l n (n+1)).natAbs:Int)<=62914560*o):Xa l o (n+1):=λj hj=>by
 by_cases e:j=n
 rw[e];exact h2
 exact h j ω
theorem AdW:((Dg (Qo 0 0)).toArray:Array Value)=#[.int .i64 0,.int .i64 0,.int .i64 0,.int .i64 0,.int .i64 0,.int .i64 0,.int .i64 0,.int .i64 0,.int .i64 0,.int .i64 0,.int .i64 0,.int .i64 0,.int .i64 0,.int .i64 0,.int .i64 0,.int .i64 0,.int .i64 0,.int .i64 0,.int .i64 0,.int .i64 0,.int .i64 0,.int .i64 0,.int .i64 0,.int .i64 0,.int .i64 0,.int .i64 0,.int .i64 0,.int .i64 0,.int .i64 0,.int .i64 0,.int .i64 0,.int .i64 0,.int .i64 0,.int .i64 0,.int .i64 0,.int .i64 0]:=by rw[eP];rfl
def Yq (w:World) (tb:Nat):Prop:=∀i,i<36->w.cell? ⟨tb,i,none⟩=some (.int .i64 ((Qo 6 0).getD i 0))
theorem AdU {w:World} {tb:Nat} {t:TypeId} {l:List Int} (h:Ho w tb t l) (hl:l.length=36):Yq (w.setCells tb 0 (Dg (Qo 6 0))) tb:=by
 intro i hi
 have hj:i<(Dg (Qo 6 0)).length:=by simpa [Dg,Gf] using hi
 have:=World.cell?_setCells_in tb (Dg (Qo 6 0)) 0 w (λj hj=>by rw[Nat.zero_add,h.cell (by rw[hl];simpa [Dg,Gf] using hj)];rfl) i hj
 rw[Nat.zero_add] at this
 rw[this]
 simp[Dg,List.getD_eq_getElem?_getD,Gf,hi]
theorem Yq.up {w w':World} {tb B:Nat} (h:Yq w tb) (hb:Below B w w') (hl:tb<B):Yq w' tb:=λi hi=>(hb.cell (p:=⟨tb,i,none⟩) hl).trans (h i hi)
theorem Su {P:Program} {ops:Array Oper} {n:Nat} {C:World->Prop} {R:Nat->Value->World->Prop} {a0:Act} {Q:Exit->Act->World->Prop} {i:Nat} {o:Oper} (T e:TypeId) (t t':Nat) (b off len size:Nat) (j:Int) (k:Nat) (h1:1<len) (ho:o.op= .indexAddr T (.tmp t) (.tmp t')) (hx:Hf ops n R a0 (.tmp t)=is (.pointer (some ⟨b,off,none⟩))) (hx':Hf ops n R a0 (.tmp t')=is (.int .i64 j))
  (hT:P.underlying T=some (.array len e)) (hsz:∀w,(sizeOf e).run P w= .ok size w) (hj:j=(k:Int)) (hk:k<len) (hr:R i=is (.pointer (some ⟨b,off+k*size,none⟩))):Ih P ops n C R a0 Q i o:=
 Vz t t' _ _ (.pointer (some ⟨b,off+k*size,none⟩)) (by rw[ho];rfl) hx hx' (λa w _ h1 h2=>by
  have e1:a.eval (.tmp t)= .pointer (some ⟨b,off,none⟩):=by simpa [Act.eval] using h1
  have e2:a.eval (.tmp t')= .int .i64 j:=by simpa [Act.eval] using h2
  have hj2:(0:Int)<=j/\j<(len:Int):=by omega
  have hj3:j.toNat=k:=by omega
  have hl:¬len<=1:=by omega
  simp[execOp,ho,e1,e2,Instr.indexAt,Instr.sureAddr,asIntOf,run_underlying hT,hj2,hj3,hsz,Fb]) hr
theorem rC (w:World):(sizeOf 3).run Tryz.prog w= .ok 1 w:=by kernel_rfl
theorem oR (w:World):(sizeOf 208).run Tryz.prog w= .ok 6 w:=by kernel_rfl
structure BoJ (w:World) (l:List Int) (o mo:Int) (tb sb j:Nat) (wr:World):Prop where
 tab:Yq wr tb
 most:Le wr sb mo
 bnd:Xa l o j
 below:Below w.heap.size w wr
structure BoK (w:World) (l:List Int) (mo:Int) (tb sb xb j k:Nat) (wr:World):Prop where
 tab:Yq wr tb
 most:Le wr sb mo
 sum:Le wr xb (Mh l j k)
 below:Below w.heap.size w wr
theorem tQ:∀m,m<6->∀j,j<6->(Qo 6 0).getD (m*6+j) 0=Dp m j:=by decide
theorem Yq.store2 {w:World} {tb xb:Nat} (h:Yq w tb) (hne:tb≠xb) (u u':Value):Yq ((w.setCell ⟨xb,0,none⟩ u).setCell ⟨xb,1,none⟩ u') tb:=λi hi=>(World.cell?_of_block (Fy _ _ hne)).trans (h i hi)
theorem Px {P:Program} {f:FuncId} {args:Array Value} {v:Value} {wr:World} (h:∀wa,Calls P f args wa λe w'=>e= .returned v/\Below wa.heap.size wa w'):∀wa,Below wr.heap.size wr wa->Calls P f args wa λe w'=>∃v',e= .returned v'/\Below wr.heap.size wr w'/\Below wa.heap.size wa w'/\is v v' w':=λwa hC=>by
 refine(h wa).mono ?_
 rintro e w' ⟨rfl,hb⟩
 exact⟨_,rfl,hC.trans (hb.mono hC.size),hb,rfl⟩
instance (l:List Int) (o:Int) (n:Nat):Decidable (Xa l o n):=by unfold Xa;infer_instance
theorem mF (l:List Int) (o:Int) (b q c:Nat) (w:World) (hs:∀i,i<l.length->w.cell? ⟨b,q+i*1,none⟩=some (.int .i64 (l.getD i 0))) (h1:1<=l.length) (h6:l.length<=6) (hi:∀i,-9223372036854775808<=l.getD i 0/\l.getD i 0<=9223372036854775807)
  (ho0: -9223372036854775808<=o) (ho1:o<=9223372036854775807):
  Calls Tryz.prog 122 #[.slice (some ⟨b,q,none⟩) l.length c,.int .i64 o] w λe w'=>e= .returned (.bool (decide (Xa l o l.length)))/\Below w.heap.size w w':=by
 have HCH:=Lib.hid mI
 have HOM:=Lib.hid (λw=>Ld 62914560 w δ δ)
 have HOO:=Lib.hid (λw=>Ld o w ho0 ho1)
 have HMM:=Lib.hid (λw=>Wn 62914560 o w (Jp δ δ) (Jp ho0 ho1) (nU ho0 ho1))
 have HFM0:=Lib.hid (nU ho0 ho1)
 have HS:=Lib.hid hs
 have HI:=Lib.hid hi
 obtain⟨n,hn⟩:∃n:Nat,l.length=n+1:=⟨l.length-1,ω⟩
 have hw:IntKind.i64.wrap ((l.length:Int)-1)=(n:Int):=by rw[IntWalk.i64_in _ ω];omega
 have hbw:b<w.heap.size:=by
  have:=hs 0 ω
  simp only[World.cell?] at this
  cases h:w.heap[b]? with
  |none=>rw[h] at this;cases this
  |some x=>exact(Array.getElem?_eq_some_iff.1 h).1
 clear hs hi ho0 ho1
 go_enter func122,ntmps122
 go_upto_region 1 with fail
 go_wp2_with fail
 refine(HCH.out _).mono ?_
 rintro e w1 ⟨rfl,hb1⟩
 have HB1:Hid (Below w.heap.size w w1):=hb1
 have hs1:w.heap.size<=w1.heap.size:=hb1.size
 clear hb1 HCH
 obtain⟨W,hW⟩:∃W,W=w1.alloc (.cells (Dg (Qo 0 0)).toArray 209):=⟨_,rfl⟩
 have HT0:Hid (Ho W w1.heap.size 209 (Qo 0 0)):=by unfold Hid Ho;rw[hW];exact heap_alloc_new w1 _
 have HB2:Hid (Below w.heap.size w W):=by unfold Hid;rw[hW];exact HB1.out.alloc hs1 _
 have hsW:W.heap.size=w1.heap.size+1:=by rw[hW];simp
 rw[AdW] at hW
 obtain⟨tb,htb⟩:∃tb,tb=w1.heap.size:=⟨_,rfl⟩
 rw[<-htb] at HT0 hsW hs1
 unfold AdV
 go_upto_region 2 with(first|(rw[<-hW];refine Ph rfl rfl 209 (.tmp 5) (.tmp 11) rfl tb (Dg (Qo 6 0)) (by rw[htb];rfl) rfl (Wp _) ?_ ?_ (bD _) ?_))
 ·
  intro j hj
  rw[HT0.out.cell (by simpa [Dg,Gf] using hj)];rfl
 · intro j _;exact HT0.out.frozen j
 rw[<-htb]
 obtain⟨W3,hW3⟩:∃W3,W3=W.setCells tb 0 (Dg (Qo 6 0)):=⟨_,rfl⟩
 have HT:Hid (Yq W3 tb):=by unfold Hid;rw[hW3];exact AdU HT0.out (Gf _ _)
 have HB3:Hid (Below w.heap.size w W3):=by unfold Hid;rw[hW3];exact Ge hs1 _ _ HB2.out
 have hs3:tb<W3.heap.size:=by
  have:=HT.out 0 ω
  simp only[World.cell?] at this
  cases h:W3.heap[tb]? with
  |none=>rw[h] at this;cases this
  |some x=>exact(Array.getElem?_eq_some_iff.1 h).1
 rw[<-hW3]
 clear hW hW3 HT0 HB1 HB2 hsW htb
 go_wp2_with fail
 refine(HOM.out _).mono ?_
 rintro e w4 ⟨rfl,hb4⟩
 have HB4:Hid (Below W3.heap.size W3 w4):=hb4
 clear hb4 HOM
 go_wp2_with fail
 refine(HOO.out _).mono ?_
 rintro e w5 ⟨rfl,hb5⟩
 have HB5:Hid (Below W3.heap.size W3 w5):=HB4.out.trans (hb5.mono HB4.out.size)
 clear hb5 HB4 HOO
 go_wp2_with fail
 refine(HMM.out _).mono ?_
 rintro e w6 ⟨rfl,hb6⟩
 have HB6:Hid (Below W3.heap.size W3 w6):=HB5.out.trans (hb6.mono HB5.out.size)
 clear hb6 HB5 HMM
 have hs6:W3.heap.size<=w6.heap.size:=HB6.out.size
 obtain⟨mo,hmo⟩:∃mo:Int,mo=62914560*o:=⟨_,rfl⟩
 have HMO:=Lib.hid hmo
 have HFM:Hid (Fp mo):=by unfold Hid;rw[hmo];exact HFM0.out
 rw[<-hmo]
 clear hmo
 unfold Ak
 obtain⟨mg,hmg⟩:∃g,g=decide (mo<0):=⟨_,rfl⟩
 obtain⟨ms,hms⟩:∃g,g=Dx mo.natAbs:=⟨_,rfl⟩
 rw[<-hmg,<-hms]
 obtain⟨V,hV⟩:∃V,V=w6.alloc (.cells #[.bool mg,.string ms] 70):=⟨_,rfl⟩
 obtain⟨sb,hsb⟩:∃sb,sb=w6.heap.size:=⟨_,rfl⟩
 have HV:Hid (Le V sb mo):=by unfold Hid;rw[hV,hsb,hmg,hms];exact Le.new w6 _
 have HTV:Hid (Yq V tb):=by unfold Hid;rw[hV];exact HT.out.up (HB6.out.alloc hs6 _) hs3
 have HBV:Hid (Below w.heap.size w V):=by unfold Hid;rw[hV];exact HB3.out.trans ((HB6.out.alloc hs6 _).mono HB3.out.size)
 have hsV:sb<V.heap.size:=by rw[hV,hsb];simp
 have htV:tb<sb:=by omega
 clear HT HB3 HB6 hmg hms hs3
 go_upto_region 3 with fail
 rw[<-hV,<-hsb]
 clear hV hsb hs6
 go_wp2_with fail
 have HJ0:Hid (BoJ w l o mo tb sb 0 V):=⟨HTV.out,HV.out,λj hj=>absurd hj (Nat.not_lt_zero j),HBV.out⟩
 clear HTV HV HBV hsV
 go_loopw [21] (λjv wr=>∃j:Nat,j<=l.length/\jv= .int .i64 (j:Int)/\Hid (BoJ w l o mo tb sb j wr)) (λjv _=>l.length-(intOf jv).toNat)
 case atStart=>exact⟨0,Nat.zero_le _,rfl,HJ0⟩
 case round=>
  obtain⟨j,hj,rfl,HJ⟩:=hrel
  clear HJ0
  by_cases hjl:j=l.length
  ·
   subst hjl
   have HR:Hid (decide (Xa l o l.length)=true/\Below w.heap.size w wr):=⟨decide_eq_true HJ.out.bnd,HJ.out.below⟩
   clear HJ
   go_wp2_with fail
   exact bodyPost_ret (v:= .bool true) (by simp[results,results122]) rfl ⟨by rw[HR.out.1],HR.out.2⟩
  ·
   have hjl2:j<l.length:=by omega
   have hji:(j:Int)<(l.length:Int):=by omega
   have HJ1:Hid (BoK w l mo tb sb wr.heap.size j 0 (wr.alloc (.cells #[.bool false,.string ⟨#[]⟩] 70))):=by
    have h:=HJ.out
    have hb:Below wr.heap.size wr (wr.alloc (.cells #[.bool false,.string ⟨#[]⟩] 70)):=(Below.refl _ _).alloc (Nat.le_refl _) _
    have htl:tb<wr.heap.size:=Nat.lt_trans htV h.most.lt
    refine⟨h.tab.up hb htl,h.most.up hb h.most.lt,?_,h.below.trans (hb.mono h.below.size)⟩
    have:=heap_alloc_new wr (.cells #[.bool false,.string ⟨#[]⟩] 70)
    unfold Le
    rw[this,show Mh l j 0=0 from rfl,show (0:Int).natAbs=0 from rfl,mA]
    rfl
   have HBND:=Lib.hid HJ.out.bnd
   have hxb0:=HJ.out.below.size
   have hxb1:=HJ.out.most.lt
   obtain⟨xb,hxb⟩:∃xb,xb=wr.heap.size:=⟨_,rfl⟩
   obtain⟨X,hX⟩:∃X,X=wr.alloc (.cells #[.bool false,.string ⟨#[]⟩] 70):=⟨_,rfl⟩
   rw[<-hxb] at hxb0 hxb1
   rw[<-hxb,<-hX] at HJ1
   clear HJ
   go_upto_region 8 with fail
   rw[<-hX,<-hxb]
   clear hX hxb
   have hw1:IntKind.i64.wrap ((j:Int)+1)=((j+1:Nat):Int):=by rw[IntWalk.i64_in _ ω];omega
   go_wp2_with fail
   have hn6:n<6:=by omega
   have hj6:j<6:=by omega
   go_loopw [26] (λkv wr=>∃k:Nat,k<=j+1/\kv= .int .i64 (k:Int)/\Hid (BoK w l mo tb sb xb j k wr)) (λkv _=>j+1-(intOf kv).toNat)
   case atStart=>exact⟨0,Nat.zero_le _,rfl,HJ1⟩
   case round=>
    obtain⟨k,hk,rfl,HK⟩:=hrel
    clear HJ1
    by_cases hkj:k=j+1
    ·
     subst hkj
     have htx:tb≠xb:=by omega
     have hsx:sb≠xb:=by omega
     obtain⟨su,hsu⟩:∃su,su=Mh l j (j+1):=⟨_,rfl⟩
     have hfs:Fp su:=by rw[hsu];exact cT h6 hj6 ω HI.out
     have hfa:Fp (su.natAbs:Int):=by unfold Fp at hfs ⊢;rw[Int.natAbs_natCast];exact hfs
     have HK2:=HK.out
     have hKs:=HK2.sum
     rw[<-hsu] at hKs
     obtain⟨c0,c1⟩:=hKs.cells
     have f0:=Dv hKs 0
     obtain⟨Y,hY⟩:∃Y,Y=wr.setCell ⟨xb,0,none⟩ (.bool false):=⟨_,rfl⟩
     have hYx:Y.heap[xb]?=some (.cells #[.bool false,.string (Dx su.natAbs)] 70 (0,0)):=by
      rw[hY];simp[World.setCell,Array.getElem?_modify,show wr.heap[xb]?=_ from hKs]
     have hYs:Le Y sb mo:=by unfold Le;rw[hY,Below.heap_setCell _ ⟨xb,0,none⟩ _ _ hsx];exact HK2.most
     have hYt:Yq Y tb:=λi hi=>by rw[hY];exact(World.cell?_of_block (Below.heap_setCell _ ⟨xb,0,none⟩ _ _ htx)).trans (HK2.tab i hi)
     have hYb:Below w.heap.size w Y:=by rw[hY];exact HK2.below.setCell (p:=⟨xb,0,none⟩) hxb0 _
     have HJN:Hid (∀w7,Below Y.heap.size Y w7->(su.natAbs:Int)<=mo->BoJ w l o mo tb sb (j+1) w7):=λw7 hb hle=>by
      refine⟨hYt.up hb (Nat.lt_trans htV hYs.lt),hYs.up hb hYs.lt,AaK HBND.out ?_,hYb.trans (hb.mono hYb.size)⟩
      rw[<-hsu,<-HMO.out];exact hle
     have HJF:Hid (mo<(su.natAbs:Int)->decide (Xa l o l.length)=false):=λhlt=>decide_eq_false λh=>by
      have:=h j hjl2
      rw[<-hsu,<-HMO.out] at this
      omega
     have HYB:=Lib.hid hYb
     obtain⟨sg,hsg⟩:∃sg,sg=((su.natAbs:Int)-mo).sign:=⟨_,rfl⟩
     have HCMP:=Lib.hid (λwa=>Wt (su.natAbs:Int) mo wa hfa HFM.out)
     rw[<-hsg] at HCMP
     obtain⟨y0,y1⟩:=Aw hYx
     obtain⟨m0,m1⟩:=hYs.cells
     unfold Ak at HCMP
     rw[Int.natAbs_natCast,show decide ((su.natAbs:Int)<0)=false from decide_eq_false ω] at HCMP
     obtain⟨us,hus⟩:∃g,g=Dx su.natAbs:=⟨_,rfl⟩
     obtain⟨mg2,hmg2⟩:∃g,g=decide (mo<0):=⟨_,rfl⟩
     obtain⟨ms2,hms2⟩:∃g,g=Dx mo.natAbs:=⟨_,rfl⟩
     rw[<-hus,<-hmg2,<-hms2] at HCMP
     rw[<-hus] at y1
     rw[<-hmg2] at m0
     rw[<-hms2] at m1
     have HSG:Hid (((su.natAbs:Int)<=mo/\sg<=0)\/(mo<(su.natAbs:Int)/\0<sg)):=by
      unfold Hid
      obtain⟨t,ht⟩:∃t,t=(su.natAbs:Int)-mo:=⟨_,rfl⟩
      rw[<-ht] at hsg
      rcases Int.lt_trichotomy t 0 with h|h|h
      · exact .inl ⟨ω,by rw[hsg,Int.sign_eq_neg_one_of_neg h];decide⟩
      · exact .inl ⟨ω,by rw[hsg,h];decide⟩
      · exact .inr ⟨ω,by rw[hsg,Int.sign_eq_one_of_pos h];decide⟩
     clear hsg hus hmg2 hms2 hfs hfa HK HK2 hKs hYx hYs hYt hYb hsu HBND
     go_upto_region 14 with fail
     rw[<-hY]
     clear hY c0 c1 f0
     go_wp2_with fail
     refine(HCMP.out _).mono ?_
     rintro e w7 ⟨rfl,hb7⟩
     have HB7:Hid (Below Y.heap.size Y w7):=hb7
     clear hb7 HCMP
     rcases HSG.out with⟨hle,hs0⟩|⟨hlt,hs0⟩
     ·
      have HNX:=Lib.hid (HJN.out w7 HB7.out hle)
      have hs1:¬(0:Int)<sg:=by omega
      clear HJN HJF hle HSG
      go_wp2_with fail
      exact⟨⟨j+1,ω,rfl,HNX⟩,by simp only[intOf];omega⟩
     ·
      have HF2:=Lib.hid (HJF.out hlt)
      have HBW:=Lib.hid (HYB.out.trans (HB7.out.mono HYB.out.size))
      clear HJN HJF hlt HSG
      go_wp2_with fail
      exact bodyPost_ret (v:= .bool false) (by simp[results,results122]) rfl ⟨by rw[HF2.out],HBW.out⟩
    ·
     have hkj2:k<j+1:=by omega
     have hki:(k:Int)<((j+1:Nat):Int):=by omega
     have hkl:k<l.length:=by omega
     have hk6:k<6:=by omega
     have htx:tb≠xb:=by omega
     have hsx:sb≠xb:=by omega
     have hwx:w.heap.size<=xb:=hxb0
     have HNX:Hid (∀w2,Below wr.heap.size wr w2->BoK w l mo tb sb xb j (k+1) ((w2.setCell ⟨xb,0,none⟩ (.bool (decide (Mh l j (k+1)<0)))).setCell ⟨xb,1,none⟩ (.string (Dx (Mh l j (k+1)).natAbs)))):=λw2 hb=>by
      have h:=HK.out
      have hsl:=h.sum.lt
      exact⟨(h.tab.up hb (by have:=h.most.lt;omega)).store2 htx _ _,(Fy _ _ hsx).trans (h.most.up hb h.most.lt),(h.sum.up hb hsl).store _,Below.store2 (h.below.trans (hb.mono h.below.size)) hwx _ _⟩
     obtain⟨x,hx⟩:∃x,x=l.getD k 0:=⟨_,rfl⟩
     obtain⟨fa,hfa⟩:∃fa:Nat,fa=Pu n j k:=⟨_,rfl⟩
     have hfle:fa<=600:=by rw[hfa];exact qU n hn6 j hj6 k hk6
     have hxi:=HI.out k
     have hsum:Mh l j (k+1)=Mh l j k+x*(fa:Int):=by
      show Mh l j k+l.getD k 0*(Pu (l.length-1) j k:Int)=_
      rw[hx,hfa,show l.length-1=n by omega]
     have HOX:=Lib.hid (Px (wr:=wr) (λwa=>Ld x wa (by rw[hx];exact hxi.1) (by rw[hx];exact hxi.2)))
     have HOF:=Lib.hid (Px (wr:=wr) (λwa=>Ld (fa:Int) wa ω ω))
     have hfx:Fp x:=by rw[hx];exact Jp hxi.1 hxi.2
     have hff:Fp (fa:Int):=Jp ω ω
     have hfp:Fp (x*(fa:Int)):=by rw[hx,hfa];exact Aci hn6 hj6 hk6 HI.out
     have HML:=Lib.hid (Px (wr:=wr) (λwa=>Wn x (fa:Int) wa hfx hff hfp))
     have HAD:=Lib.hid (Px (wr:=wr) (λwa=>oS (Mh l j k) (x*(fa:Int)) wa (cT h6 hj6 ω HI.out) hfp (by rw[<-hsum];exact cT h6 hj6 ω HI.out)))
     rw[<-hsum] at HAD
     have CX:Hid (∀wa,Below wr.heap.size wr wa->wa.heap[xb]?=some (.cells #[.bool (decide (Mh l j k<0)),.string (Dx (Mh l j k).natAbs)] 70 (0,0))):=λwa hb=>HK.out.sum.up hb HK.out.sum.lt
     have CS:Hid (∀wa,Below wr.heap.size wr wa->wa.cell? ⟨b,q+k*1,none⟩=some (.int .i64 x)):=λwa hb=>by
      rw[hx,<-HS.out k hkl]
      exact(HK.out.below.trans (hb.mono HK.out.below.size)).cell (p:=⟨b,q+k*1,none⟩) hbw
     obtain⟨cn,hcn⟩:∃z:Nat,z=Dp n k:=⟨_,rfl⟩
     obtain⟨cj,hcj⟩:∃z:Nat,z=Dp j k:=⟨_,rfl⟩
     have hcn1:1<=cn/\cn<=10:=by rw[hcn];exact qL n hn6 k ω
     have hcj1:cj<=10:=by rw[hcj];exact wW j hj6 k hk6
     have CN:Hid (∀wa,Below wr.heap.size wr wa->wa.cell? ⟨tb,0+n*6+k*1,none⟩=some (.int .i64 (cn:Int))):=λwa hb=>by
      have h:=HK.out.tab.up hb (by have:=HK.out.most.lt;omega) (n*6+k) ω
      rw[Nat.zero_add,Nat.mul_one,h,tQ n hn6 k hk6,hcn]
     have CJ:Hid (∀wa,Below wr.heap.size wr wa->wa.cell? ⟨tb,0+j*6+k*1,none⟩=some (.int .i64 (cj:Int))):=λwa hb=>by
      have h:=HK.out.tab.up hb (by have:=HK.out.most.lt;omega) (j*6+k) ω
      rw[Nat.zero_add,Nat.mul_one,h,tQ j hj6 k hk6,hcj]
     obtain⟨qa,hqa⟩:∃z:Nat,z=60/cn:=⟨_,rfl⟩
     have hqle:qa<=60:=by rw[hqa];exact Nat.div_le_self _ _
     have HQ:Hid (IntKind.i64.wrap (Int.tdiv 60 (cn:Int))=(qa:Int)):=by
      unfold Hid
      rw[show Int.tdiv 60 (cn:Int)=((60/cn:Nat):Int) from rfl,<-hqa,IntWalk.i64_in _ ω]
     have HFA:Hid (IntKind.i64.wrap ((qa:Int)*(cj:Int))=(fa:Int)):=by
      unfold Hid
      have e:(qa:Int)*(cj:Int)=(fa:Int):=by rw[hfa,hqa,hcj,hcn];unfold Pu;rw[Int.natCast_mul]
      rw[e,IntWalk.i64_in _ ω]
     have hcn0:¬((cn:Int)=0):=by omega
     unfold Ak at HOX HOF HML HAD
     obtain⟨xg,hxg⟩:∃g,g=decide (x<0):=⟨_,rfl⟩
     obtain⟨xs,hxs⟩:∃g,g=Dx x.natAbs:=⟨_,rfl⟩
     obtain⟨fg,hfg⟩:∃g,g=decide ((fa:Int)<0):=⟨_,rfl⟩
     obtain⟨fs,hfs⟩:∃g,g=Dx (fa:Int).natAbs:=⟨_,rfl⟩
     obtain⟨pg,hpg⟩:∃g,g=decide (x*(fa:Int)<0):=⟨_,rfl⟩
     obtain⟨ps,hps⟩:∃g,g=Dx (x*(fa:Int)).natAbs:=⟨_,rfl⟩
     obtain⟨ug,hug⟩:∃g,g=decide (Mh l j k<0):=⟨_,rfl⟩
     obtain⟨us,hus⟩:∃g,g=Dx (Mh l j k).natAbs:=⟨_,rfl⟩
     obtain⟨vg,hvg⟩:∃g,g=decide (Mh l j (k+1)<0):=⟨_,rfl⟩
     obtain⟨vs,hvs⟩:∃g,g=Dx (Mh l j (k+1)).natAbs:=⟨_,rfl⟩
     rw[<-hxg,<-hxs] at HOX HML
     rw[<-hfg,<-hfs] at HOF HML
     rw[<-hpg,<-hps] at HML HAD
     rw[<-hug,<-hus] at HAD CX
     rw[<-hvg,<-hvs] at HAD HNX
     clear hxg hxs hfg hfs hpg hps hug hus hvg hvs hfx hff hfp hsum hxi hqa hcn hcj hfa hx HK
     go_wp2_with fail
     refine Dc 21 57 (λw'=>Below wr.heap.size wr w') [is (.agg #[.bool ug,.string us]),is (.slice (some ⟨b,q,none⟩) (n+1) c),is (.int .i64 (k:Int)),is (.pointer (some ⟨b,q+k*1,none⟩)),is (.int .i64 x),is (.agg #[.bool xg,.string xs]),is (.int .i64 (n:Int)),is (.int .i64 (k:Int)),is (.pointer (some ⟨tb,0+n*6,none⟩)),is (.pointer (some ⟨tb,0+n*6+k*1,none⟩)),is (.int .i64 (cn:Int)),is (.int .i64 (qa:Int)),is (.int .i64 (j:Int)),is (.int .i64 (k:Int)),is (.pointer (some ⟨tb,0+j*6,none⟩)),is (.pointer (some ⟨tb,0+j*6+k*1,none⟩)),is (.int .i64 (cj:Int)),is (.int .i64 (fa:Int)),is (.agg #[.bool fg,.string fs]),is (.agg #[.bool pg,.string ps]),is (.agg #[.bool vg,.string vs])] κ κ rfl δ ?hst ?h0 ?hop ?htail
     case hst=>
      simp only[List.mem_cons,List.mem_nil_iff,or_false,forall_eq_or_imp,forall_eq]
      exact⟨Ab _,Ab _,Ab _,Ab _,Ab _,Ab _,Ab _,Ab _,Ab _,Ab _,Ab _,Ab _,Ab _,Ab _,Ab _,Ab _,Ab _,Ab _,Ab _,Ab _,Ab _⟩
     case h0=>exact(Below.refl _ _).drew
     case hop=>
      refine⟨?_,?_,?_,?_,?_,?_,?_,?_,?_,?_,?_,?_,?_,?_,?_,?_,?_,?_,?_,?_,?_,trivial⟩
      · exact Bb 70 (.tmp 9) (.pointer (some ⟨xb,0,none⟩)) (.agg #[.bool ug,.string us]) rfl κ (λwa hC=>Dq [.bool ug,.string us] wa κ κ (Lm (CX.out wa hC))) rfl
      · exact Cy (.tmp 0) (is (.slice (some ⟨b,q,none⟩) (n+1) c)) rfl κ (λ_ _ _ h=>h)
      · exact Cy (.tmp 10) (is (.int .i64 (k:Int))) rfl κ (λ_ _ _ h=>h)
      · exact Mx 23 3 30 31 b q (n+1) c 1 (k:Int) k rfl κ κ underlying23 rC rfl ω rfl
      · exact Bb 3 (.tmp 32) (.pointer (some ⟨b,q+k*1,none⟩)) (.int .i64 x) rfl κ (λwa hC=>As wa κ (CS.out wa hC)) rfl
      · exact Cd 95 [.tmp 33] _ [.int .i64 x] rfl (λ_ _=>by kernel_rfl) ⟨κ,trivial⟩ HOX.out
      · exact Cy (.tmp 7) (is (.int .i64 (n:Int))) rfl κ (λ_ _ _ h=>h)
      · exact Cy (.tmp 10) (is (.int .i64 (k:Int))) rfl κ (λ_ _ _ h=>h)
      · exact Su 209 208 5 35 tb 0 6 6 (n:Int) n δ rfl κ κ underlying209 oR rfl ω rfl
      · exact Su 208 3 37 36 tb (0+n*6) 6 1 (k:Int) k δ rfl κ κ underlying208 rC rfl ω rfl
      · exact Bb 3 (.tmp 38) (.pointer (some ⟨tb,0+n*6+k*1,none⟩)) (.int .i64 (cn:Int)) rfl κ (λwa hC=>As wa κ (CN.out wa hC)) rfl
      · exact Af9 39 (.int .i64 60) (.int .i64 (cn:Int)) (.int .i64 (qa:Int)) rfl κ (λa wa _ e1=>by have hq:=HQ.out;go_simp;clear hq;omega) rfl
      · exact Cy (.tmp 8) (is (.int .i64 (j:Int))) rfl κ (λ_ _ _ h=>h)
      · exact Cy (.tmp 10) (is (.int .i64 (k:Int))) rfl κ (λ_ _ _ h=>h)
      · exact Su 209 208 5 41 tb 0 6 6 (j:Int) j δ rfl κ κ underlying209 oR rfl ω rfl
      · exact Su 208 3 43 42 tb (0+j*6) 6 1 (k:Int) k δ rfl κ κ underlying208 rC rfl ω rfl
      · exact Bb 3 (.tmp 44) (.pointer (some ⟨tb,0+j*6+k*1,none⟩)) (.int .i64 (cj:Int)) rfl κ (λwa hC=>As wa κ (CJ.out wa hC)) rfl
      · exact Vz 40 45 (.int .i64 (qa:Int)) (.int .i64 (cj:Int)) (.int .i64 (fa:Int)) rfl κ κ (λa wa _ e1 e2=>by have hq:=HFA.out;go_simp) rfl
      · exact Cd 95 [.tmp 46] _ [.int .i64 (fa:Int)] rfl (λ_ _=>by kernel_rfl) ⟨κ,trivial⟩ HOF.out
      · exact Cd 94 [.tmp 34,.tmp 47] _ [.agg #[.bool xg,.string xs],.agg #[.bool fg,.string fs]] rfl (λ_ _=>by kernel_rfl) ⟨κ,κ,trivial⟩ HML.out
      · exact Cd 70 [.tmp 29,.tmp 48] _ [.agg #[.bool ug,.string us],.agg #[.bool pg,.string ps]] rfl (λ_ _=>by kernel_rfl) ⟨κ,κ,trivial⟩ HAD.out
     case htail=>
     intro τ w2 hC hR
     have r20:τ 20= .agg #[.bool vg,.string vs]:=hR 20 δ
     simp only[Bl,List.getElem?_toArray,List.getElem?_cons_succ,List.getElem?_cons_zero,Option.bind_some,Act.put,List.setIfInBounds_toArray,List.set_cons_succ,List.set_cons_zero,List.drop_succ_cons,List.drop_zero,r20]
     clear hR r20
     have HN2:=Lib.hid (HNX.out w2 hC)
     have h1:=CX.out w2 hC
     obtain⟨c0,c1⟩:=Aw h1
     have f0:=Dv h1 0
     have f1:=Dv h1 1
     clear hC h1 CX CS CN CJ HOX HOF HML HAD HNX HQ HFA
     go_wp2_with fail
     exact⟨⟨k+1,ω,rfl,HN2⟩,by simp only[intOf];omega⟩
def Of (c:List Int) (o:Int):Prop:=1<=c.length/\c.length<=6/\(1<c.length->c.getD (c.length-1) 0≠0)/\Xa c o c.length
instance (c:List Int) (o:Int):Decidable (Of c o):=by unfold Of;infer_instance
def Ni (g:Nat) (l:List Int):Nat:=l.foldl (λg x=>Nat.gcd g x.natAbs) g
def Jd (f t o:Int):Prop:=0<=f/\f<t/\t<=3600000/\1<=o/\o<=4294967296
instance (f t o:Int):Decidable (Jd f t o):=by unfold Jd;infer_instance
def Hc (s:Sg):Prop:=Jd s.f s.t s.o/\Of s.x s.o/\Of s.y s.o/\Of s.z s.o/\Ni (Ni (Ni s.o.natAbs s.x) s.y) s.z=1
instance (s:Sg):Decidable (Hc s):=by unfold Hc;infer_instance
theorem Abn (f t o:Int) (Ax Ay Az:Option Addr) (nx cx ny cy nz cz:Nat) (w:World) (hh:¬Jd f t o):
  Calls Tryz.prog 92 #[.agg #[.int .i64 f,.int .i64 t,.int .i64 o,.slice Ax nx cx,.slice Ay ny cy,.slice Az nz cz]] w λe w'=>e= .returned (.bool false)/\Below w.heap.size w w':=by
 have hc:f<0\/(¬f<0/\t<=f)\/(¬f<0/\¬t<=f/\3600000<t)\/(¬f<0/\¬t<=f/\¬3600000<t/\o<1)\/(¬f<0/\¬t<=f/\¬3600000<t/\¬o<1/\4294967296<o):=by
  unfold Jd at hh;omega
 clear hh
 obtain⟨W,hW⟩:∃W,W=w.alloc (.cells #[.int .i64 f,.int .i64 t,.int .i64 o,.slice Ax nx cx,.slice Ay ny cy,.slice Az nz cz] 81):=⟨_,rfl⟩
 have hb:=heap_alloc_new w (.cells #[.int .i64 f,.int .i64 t,.int .i64 o,.slice Ax nx cx,.slice Ay ny cy,.slice Az nz cz] 81)
 rw[<-hW] at hb
 have s0:W.cell? ⟨w.heap.size,0,none⟩=some (.int .i64 f):=by simp[World.cell?,hb]
 have s1:W.cell? ⟨w.heap.size,1,none⟩=some (.int .i64 t):=by simp[World.cell?,hb]
 have s2:W.cell? ⟨w.heap.size,2,none⟩=some (.int .i64 o):=by simp[World.cell?,hb]
 have HB:Hid (Below w.heap.size w W):=by unfold Hid;rw[hW];exact(Below.refl _ _).alloc (Nat.le_refl _) _
 clear hb
 rcases hc with h|⟨h,h2⟩|⟨h,h2,h3⟩|⟨h,h2,h3,h4⟩|⟨h,h2,h3,h4,h5⟩
 all_goals
  go_enter func92,ntmps92
  go_upto_region 1 with fail
  rw[<-hW]
  clear hW
  go_wp2_with fail
  exact bodyPost_ret (v:= .bool false) (by simp[results,results92]) rfl ⟨rfl,HB.out⟩
theorem AdH (v0 v1 v2:Value) (w:World):(Instr.index 147 (.agg #[v0,v1,v2]) (.int .i64 ((0:Nat):Int))).run Tryz.prog w= .ok v0 w:=by
 kernel_rfl
theorem AdI (v0 v1 v2:Value) (w:World):(Instr.index 147 (.agg #[v0,v1,v2]) (.int .i64 ((1:Nat):Int))).run Tryz.prog w= .ok v1 w:=by
 kernel_rfl
theorem AdJ (v0 v1 v2:Value) (w:World):(Instr.index 147 (.agg #[v0,v1,v2]) (.int .i64 ((2:Nat):Int))).run Tryz.prog w= .ok v2 w:=by
 kernel_rfl
theorem sD {v0 v1 v2 v:Value} {k:Nat} (hk:k<3) (h:(#[v0,v1,v2]:Array Value)[k]?=some v) (w:World):(Instr.index 147 (.agg #[v0,v1,v2]) (.int .i64 (k:Int))).run Tryz.prog w= .ok v w:=by
 match k with
 |0=>simp at h;rw[<-h];exact AdH v0 v1 v2 w
 |1=>simp at h;rw[<-h];exact AdI v0 v1 v2 w
 |2=>simp at h;rw[<-h];exact AdJ v0 v1 v2 w
theorem eC {w:World} {ops:Array Oper} {rest:List Oper} {o:Oper} {a:Act} {Q:Exit->Act->World->Prop} (hgd:o.guard=none) (x y:Operand) (ho:o.op= .index 147 x y) (v0 v1 v2 v:Value) (k:Nat) (hx:a.eval x= .agg #[v0,v1,v2]) (hy:a.eval y= .int .i64 (k:Int)) (hk:k<3) (hv:(#[v0,v1,v2]:Array Value)[k]?=some v)
  (h:wpList Tryz.prog ops Q rest (a.put o.dst v) w):wpList Tryz.prog ops Q (o::rest) a w:=by
 refine wpList_plain hgd λK hK=>?_
 have hrun:=sD hk hv w
 unfold Oper.wp
 simp[execOp,ho,hx,hy,hrun,Result.andThen]
 exact hK _ _ h
def Qu (w:World) (v:Value) (l:List Int):Prop:=(∃A c,v= .slice A 0 c/\l=[])\/∃b q c,v= .slice (some ⟨b,q,none⟩) l.length c/\∀i,i<l.length->w.cell? ⟨b,q+i*1,none⟩=some (.int .i64 (l.getD i 0))
def axL (s:Sg):Nat->List Int
 |0=>s.x
 |1=>s.y
 |_=>s.z
def gK (s:Sg):Nat->Nat
 |0=>s.o.natAbs
 |k+1=>Ni (gK s k) (axL s k)
structure VaJ (w:World) (s:Sg) (gb k:Nat) (wr:World):Prop where
 over:wr.cell? ⟨w.heap.size,2,none⟩=some (.int .i64 s.o)
 box:Le wr gb (gK s k:Int)
 ok:∀i,i<k->Of (axL s i) s.o
 fit:Fp (gK s k:Int)
 below:Below w.heap.size w wr
structure VaK (w:World) (s:Sg) (l:List Int) (gb k i:Nat) (wr:World):Prop where
 over:wr.cell? ⟨w.heap.size,2,none⟩=some (.int .i64 s.o)
 box:Le wr gb (Ni (gK s k) (l.take i):Int)
 fit:Fp (Ni (gK s k) (l.take i):Int)
 below:Below w.heap.size w wr
theorem fB (g:Nat) (l:List Int) {i:Nat} (h:i<l.length):Ni g (l.take (i+1))=Nat.gcd (Ni g (l.take i)) (l.getD i 0).natAbs:=by
 unfold Ni
 rw[List.take_succ_eq_append_getElem h,List.foldl_append]
 simp[h]
theorem lZ {n m:Nat} (h:(Dx n).toList=(Dx m).toList):n=m:=by
 rw[ByteArray.toList_eq,ByteArray.toList_eq] at h
 exact AaJ h
theorem xL (s:Sg) (Ax Ay Az:Option Addr) (cx cy cz:Nat) (w:World) (hh:Jd s.f s.t s.o)
  (hx:Qu w (.slice Ax s.x.length cx) s.x) (hy:Qu w (.slice Ay s.y.length cy) s.y) (hz:Qu w (.slice Az s.z.length cz) s.z)
  (hi:∀k i,-9223372036854775808<=(axL s k).getD i 0/\(axL s k).getD i 0<=9223372036854775807):
  Calls Tryz.prog 92 #[.agg #[.int .i64 s.f,.int .i64 s.t,.int .i64 s.o,.slice Ax s.x.length cx,.slice Ay s.y.length cy,.slice Az s.z.length cz]] w λe w'=>e= .returned (.bool (decide (Hc s)))/\Below w.heap.size w w':=by
 have HH:=Lib.hid hh
 have HI:=Lib.hid hi
 have HX:Hid (∀k,k<3->∃A c,(#[.slice Ax s.x.length cx,.slice Ay s.y.length cy,.slice Az s.z.length cz]:Array Value)[k]?=some (.slice A (axL s k).length c)/\Qu w (.slice A (axL s k).length c) (axL s k)):=by
  intro k hk
  match k with
  |0=>exact⟨_,_,rfl,hx⟩
  |1=>exact⟨_,_,rfl,hy⟩
  |2=>exact⟨_,_,rfl,hz⟩
 clear hx hy hz hi
 obtain⟨f,hf⟩:∃f,f=s.f:=⟨_,rfl⟩
 obtain⟨t,ht⟩:∃t,t=s.t:=⟨_,rfl⟩
 obtain⟨o,ho⟩:∃o,o=s.o:=⟨_,rfl⟩
 have HSO:=Lib.hid ho
 obtain⟨h,h2,h3,h4,h5⟩:=hh
 rw[<-hf] at h h2
 rw[<-ht] at h2 h3
 rw[<-ho] at h4 h5
 have g1:¬f<0:=by omega
 have g2:¬t<=f:=by omega
 have g3:¬3600000<t:=by omega
 have g4:¬o<1:=by omega
 have g5:¬4294967296<o:=by omega
 rw[<-hf,<-ht,<-ho]
 clear hf ht ho
 have HOO:=Lib.hid (λw=>Ld o w ω ω)
 have HAX:=Lib.hid (λw=>AaG f t o Ax Ay Az s.x.length cx s.y.length cy s.z.length cz w)
 obtain⟨W,hW⟩:∃W,W=w.alloc (.cells #[.int .i64 f,.int .i64 t,.int .i64 o,.slice Ax s.x.length cx,.slice Ay s.y.length cy,.slice Az s.z.length cz] 81):=⟨_,rfl⟩
 have hb:=heap_alloc_new w (.cells #[.int .i64 f,.int .i64 t,.int .i64 o,.slice Ax s.x.length cx,.slice Ay s.y.length cy,.slice Az s.z.length cz] 81)
 rw[<-hW] at hb
 have hsW:W.heap.size=w.heap.size+1:=by rw[hW];simp
 have s0:W.cell? ⟨w.heap.size,0,none⟩=some (.int .i64 f):=by simp[World.cell?,hb]
 have s1:W.cell? ⟨w.heap.size,1,none⟩=some (.int .i64 t):=by simp[World.cell?,hb]
 have s2:W.cell? ⟨w.heap.size,2,none⟩=some (.int .i64 o):=by simp[World.cell?,hb]
 have HBK:=Lib.hid hb
 have HB:Hid (Below w.heap.size w W):=by unfold Hid;rw[hW];exact(Below.refl _ _).alloc (Nat.le_refl _) _
 clear hb
 go_enter func92,ntmps92
 go_upto_region 1 with fail
 rw[<-hW]
 clear hW
 go_upto_region 3 with fail
 go_wp2_with fail
 refine(HOO.out _).mono ?_
 rintro e w1 ⟨rfl,hb1⟩
 have HB1:Hid (Below W.heap.size W w1):=hb1
 clear hb1 HOO s0 s1 s2
 have hs1:=HB1.out.size
 unfold Ak
 obtain⟨og,hog⟩:∃g,g=decide (o<0):=⟨_,rfl⟩
 obtain⟨os,hos⟩:∃g,g=Dx o.natAbs:=⟨_,rfl⟩
 rw[<-hog,<-hos]
 obtain⟨V,hV⟩:∃V,V=w1.alloc (.cells #[.bool og,.string os] 70):=⟨_,rfl⟩
 obtain⟨gb,hgb⟩:∃gb,gb=w1.heap.size:=⟨_,rfl⟩
 have hVb:Below W.heap.size W V:=by rw[hV];exact HB1.out.alloc hs1 _
 have HF0:Hid (Fp (gK s 0:Int)):=by
  unfold Hid
  have e:((gK s 0:Nat):Int)=o:=by show (s.o.natAbs:Int)=o;rw[<-HSO.out];omega
  rw[e];exact Jp ω ω
 have HV:Hid (Le V gb (gK s 0:Int)):=by
  unfold Hid
  have e:((gK s 0:Nat):Int)=o:=by show (s.o.natAbs:Int)=o;rw[<-HSO.out];omega
  rw[e,hV,hgb,hog,hos];exact Le.new w1 _
 have hsV:gb<V.heap.size:=by rw[hV,hgb];simp
 have hVk:V.heap[w.heap.size]?=some (.cells #[.int .i64 f,.int .i64 t,.int .i64 o,.slice Ax s.x.length cx,.slice Ay s.y.length cy,.slice Az s.z.length cz] 81 (0,0)):=(hVb.block w.heap.size ω).trans HBK.out
 have HBV:Hid (Below w.heap.size w V):=HB.out.trans (hVb.mono HB.out.size)
 have hgw:w.heap.size<gb:=by omega
 have s0:V.cell? ⟨w.heap.size,0,none⟩=some (.int .i64 f):=by simp[World.cell?,hVk]
 have s1:V.cell? ⟨w.heap.size,1,none⟩=some (.int .i64 t):=by simp[World.cell?,hVk]
 have s2:V.cell? ⟨w.heap.size,2,none⟩=some (.int .i64 o):=by simp[World.cell?,hVk]
 have s3:V.cell? ⟨w.heap.size,3,none⟩=some (.slice Ax s.x.length cx):=by simp[World.cell?,hVk]
 have s4:V.cell? ⟨w.heap.size,4,none⟩=some (.slice Ay s.y.length cy):=by simp[World.cell?,hVk]
 have s5:V.cell? ⟨w.heap.size,5,none⟩=some (.slice Az s.z.length cz):=by simp[World.cell?,hVk]
 clear hVb hVk hog hos HB1 HB HBK
 go_upto_region 4 with fail
 rw[<-hV,<-hgb]
 clear hV hgb hs1
 go_wp2_with fail
 refine(HAX.out _).mono ?_
 rintro e w2 ⟨rfl,hb2⟩
 have HJ0:Hid (VaJ w s gb 0 w2):=⟨by rw[<-HSO.out];exact(hb2.cell (p:=⟨w.heap.size,2,none⟩) (by show w.heap.size<_;omega)).trans s2,HV.out.up hb2 hsV,λi hi=>absurd hi (Nat.not_lt_zero i),HF0.out,HBV.out.trans (hb2.mono HBV.out.size)⟩
 clear hb2 s0 s1 s2 s3 s4 s5 HV HBV HAX hsV hsW
 go_wp2_with fail
 go_loopw [38] (λkv wr=>∃k:Nat,k<=3/\kv= .int .i64 (k:Int)/\Hid (VaJ w s gb k wr)) (λkv _=>3-(intOf kv).toNat)
 case atStart=>exact⟨0,Nat.zero_le _,rfl,HJ0⟩
 case round=>
  obtain⟨k,hk,rfl,HJ⟩:=hrel
  clear HJ0
  by_cases hk3:k=3
  ·
   subst hk3
   have CX:Hid (∀wa,Below wr.heap.size wr wa->wa.heap[gb]?=some (.cells #[.bool (decide ((gK s 3:Int)<0)),.string (Dx (gK s 3))] 70 (0,0))):=λwa hb=>HJ.out.box.up hb HJ.out.box.lt
   rw[show decide ((gK s 3:Int)<0)=false from decide_eq_false ω] at CX
   have HO1:=Lib.hid (Px (wr:=wr) (λwa=>Ld 1 wa δ δ))
   unfold Ak at HO1
   rw[show decide ((1:Int)<0)=false from rfl,show (1:Int).natAbs=1 from rfl] at HO1
   have HBW:=Lib.hid HJ.out.below
   have HSE:Hid (Hc s↔gK s 3=1):=by
    constructor
    · exact λh=>h.2.2.2.2
    · exact λh=>⟨HH.out,HJ.out.ok 0 ω,HJ.out.ok 1 ω,HJ.out.ok 2 ω,h⟩
   obtain⟨us,hus⟩:∃g,g=Dx (gK s 3):=⟨_,rfl⟩
   obtain⟨vs,hvs⟩:∃g,g=Dx 1:=⟨_,rfl⟩
   have HUV:Hid ((us=vs/\decide (Hc s)=true)\/(¬us.toList=vs.toList/\decide (Hc s)=false)):=by
    by_cases h:gK s 3=1
    · exact .inl ⟨by rw[hus,hvs,h],decide_eq_true (HSE.out.2 h)⟩
    ·
     refine .inr ⟨λe=>?_,decide_eq_false λh2=>h (HSE.out.1 h2)⟩
     rw[hus,hvs] at e
     exact h (lZ e)
   rw[<-hus] at CX
   rw[<-hvs] at HO1
   clear hus hvs HJ HSE
   go_wp2_with fail
   refine Dc 2 85 (λw'=>Below wr.heap.size wr w') [is (.agg #[.bool false,.string us]),is (.agg #[.bool false,.string vs])] κ κ rfl δ ?hst ?h0 ?hop ?htail
   case hst=>
    simp only[List.mem_cons,List.mem_nil_iff,or_false,forall_eq_or_imp,forall_eq]
    exact⟨Ab _,Ab _⟩
   case h0=>exact(Below.refl _ _).drew
   case hop=>
    refine⟨?_,?_,trivial⟩
    · exact Bb 70 (.tmp 3) (.pointer (some ⟨gb,0,none⟩)) (.agg #[.bool false,.string us]) rfl κ (λwa hC=>Dq [.bool false,.string us] wa κ κ (Lm (CX.out wa hC))) rfl
    · exact Cd 95 [.const (.int .i64 1)] _ [.int .i64 1] rfl (λ_ _=>by kernel_rfl) ⟨κ,trivial⟩ HO1.out
   case htail=>
   intro τ w2 hC hR
   have r0:τ 0= .agg #[.bool false,.string us]:=hR 0 δ
   have r1:τ 1= .agg #[.bool false,.string vs]:=hR 1 δ
   simp only[Bl,List.getElem?_toArray,List.getElem?_cons_succ,List.getElem?_cons_zero,Option.bind_some,Act.put,List.setIfInBounds_toArray,List.set_cons_succ,List.set_cons_zero,List.drop_succ_cons,List.drop_zero,r0,r1]
   clear hR r0 r1
   have HBX:=Lib.hid (HBW.out.trans (hC.mono HBW.out.size))
   clear hC
   rcases HUV.out with⟨huv,hd⟩|⟨huv,hd⟩
   ·
    subst huv
    have HD:=Lib.hid hd
    clear hd
    go_wp2_with fail
    exact bodyPost_ret (v:= .bool true) (by simp[results,results92]) rfl ⟨by rw[HD.out],HBX.out⟩
   ·
    have HD:=Lib.hid hd
    clear hd
    go_wp2_with fail
    exact bodyPost_ret (v:= .bool false) (by simp[results,results92]) rfl ⟨by rw[HD.out],HBX.out⟩
  ·
   have hkl:k<3:=by omega
   have hki:(k:Int)<3:=by omega
   obtain⟨A,c,hidx,hco⟩:=HX.out k hkl
   have HCO:=Lib.hid hco
   have HIX:=Lib.hid hidx
   clear hco hidx
   go_upto_region 7 with(refine eC rfl (.tmp 37) (.tmp 38) rfl _ _ _ (.slice A (axL s k).length c) k rfl rfl hkl HIX.out ?_)
   obtain⟨l,hl⟩:∃l,l=axL s k:=⟨_,rfl⟩
   have HLI:Hid (∀i,-9223372036854775808<=l.getD i 0/\l.getD i 0<=9223372036854775807):=by unfold Hid;rw[hl];exact HI.out k
   have HL:=Lib.hid hl
   rw[<-hl] at HCO ⊢
   have HBAD:Hid (¬Of l o->decide (Hc s)=false):=λhn=>decide_eq_false λh=>by
    obtain⟨_,h0,h1,h2,_⟩:=h
    apply hn
    rw[HSO.out,hl]
    match k with
    |0=>exact h0
    |1=>exact h1
    |2=>exact h2
   have HBW:=Lib.hid HJ.out.below
   clear hl
   by_cases l1:l.length<1
   ·
    have HF:Hid (decide (Hc s)=false):=HBAD.out λh=>by have:=h.1;omega
    have l1':(l.length:Int)<1:=by omega
    clear HBAD HCO HL HJ HLI
    go_wp2_with fail
    exact bodyPost_ret (v:= .bool false) (by simp[results,results92]) rfl ⟨by rw[HF.out],HBW.out⟩
   by_cases l6:6<l.length
   ·
    have HF:Hid (decide (Hc s)=false):=HBAD.out λh=>by have:=h.2.1;omega
    have l1':¬(l.length:Int)<1:=by omega
    have l6':(6:Int)<(l.length:Int):=by omega
    clear HBAD HCO HL HJ HLI
    go_wp2_with fail
    exact bodyPost_ret (v:= .bool false) (by simp[results,results92]) rfl ⟨by rw[HF.out],HBW.out⟩
   obtain⟨b,q,c2,hA,hcell⟩:∃b q c2,(Value.slice A l.length c)= .slice (some ⟨b,q,none⟩) l.length c2/\∀i,i<l.length->w.cell? ⟨b,q+i*1,none⟩=some (.int .i64 (l.getD i 0)):=by
    rcases HCO.out with⟨_,_,_,e⟩|h
    · rw[e] at l1;exact absurd δ l1
    · exact h
   injection hA with hA1 _ hA2
   subst hA1
   subst hA2
   have hbw:b<w.heap.size:=by
    have:=hcell 0 ω
    simp only[World.cell?] at this
    cases h:w.heap[b]? with
    |none=>rw[h] at this;cases this
    |some x=>exact(Array.getElem?_eq_some_iff.1 h).1
   have HC:Hid (∀wa,Below w.heap.size w wa->∀i,i<l.length->wa.cell? ⟨b,q+i*1,none⟩=some (.int .i64 (l.getD i 0))):=λwa hb i hi=>(hb.cell (p:=⟨b,q+i*1,none⟩) hbw).trans (hcell i hi)
   have HBD:Hid (∀wa,Below w.heap.size w wa->Calls Tryz.prog 122 #[.slice (some ⟨b,q,none⟩) l.length c,.int .i64 o] wa λe w'=>e= .returned (.bool (decide (Xa l o l.length)))/\Below wa.heap.size wa w'):=λwa hb=>
    mF l o b q c wa (HC.out wa hb) ω ω HLI.out ω ω
   obtain⟨m,hm⟩:∃m,l.length=m+1:=⟨l.length-1,ω⟩
   have HM:=Lib.hid hm
   have hwm:IntKind.i64.wrap ((l.length:Int)-1)=(m:Int):=by rw[IntWalk.i64_in _ ω];omega
   have hml:m<l.length:=by omega
   have hmi:(m:Int)<(l.length:Int):=by omega
   have o2:wr.cell? ⟨w.heap.size,2,none⟩=some (.int .i64 o):=by rw[HSO.out];exact HJ.out.over
   have cm:=HC.out wr HBW.out m hml
   rw[Nat.mul_one] at cm
   have l1':¬(l.length:Int)<1:=by omega
   have l6':¬(6:Int)<(l.length:Int):=by omega
   obtain⟨x,hx⟩:∃x,x=l.getD m 0:=⟨_,rfl⟩
   rw[<-hx] at cm
   clear hcell hm
   by_cases lz:1<l.length/\x=0
   ·
    have HF:Hid (decide (Hc s)=false):=HBAD.out λh=>by
     apply h.2.2.1 lz.1
     rw[show l.length-1=m by have:=HM.out;omega,<-hx]
     exact lz.2
    have lone:(1:Int)<(l.length:Int):=by omega
    obtain⟨_,lz⟩:=lz
    clear HBAD HCO HL HJ HLI HBD HC hx
    go_wp2_with fail
    exact bodyPost_ret (v:= .bool false) (by simp[results,results92]) rfl ⟨by rw[HF.out],HBW.out⟩
   have HLZ:=Lib.hid lz
   have lzz:(¬(1:Int)<(l.length:Int))\/((1:Int)<(l.length:Int)/\¬x=0):=by omega
   have HAX2:Hid (Xa l o l.length->Of l o):=λh=>⟨ω,ω,λh1=>by
    have:=HM.out
    rw[show l.length-1=m by omega,<-hx]
    intro e
    exact HLZ.out ⟨h1,e⟩,h⟩
   have HNB:Hid (decide (Xa l o l.length)=false->decide (Hc s)=false):=λh=>HBAD.out λh2=>(of_decide_eq_false h) h2.2.2.2
   clear lz HLZ HBAD hx HCO
   obtain⟨bb,hbb⟩:∃bb,bb=decide (Xa l o l.length):=⟨_,rfl⟩
   rw[<-hbb] at HBD HNB
   have HBB:=Lib.hid hbb
   clear hbb
   rcases lzz with lone|⟨lone,lx⟩
   all_goals
    go_wp2_with fail
    refine(HBD.out _ HBW.out).mono ?_
    rintro e w3 ⟨rfl,hb3⟩
    have HB3:Hid (Below wr.heap.size wr w3):=hb3
    clear hb3
    cases bb
    ·
     have HF:=Lib.hid (HNB.out rfl)
     have HBX:=Lib.hid (HBW.out.trans (HB3.out.mono HBW.out.size))
     go_wp2_with fail
     exact bodyPost_ret (v:= .bool false) (by simp[results,results92]) rfl ⟨by rw[HF.out],HBX.out⟩
    ·
     have HOK:Hid (Of l o):=HAX2.out (of_decide_eq_true HBB.out.symm)
     have HK0:Hid (VaK w s l gb k 0 w3):=by
      have h:=HJ.out
      exact⟨(HB3.out.cell (p:=⟨w.heap.size,2,none⟩) (by have:=h.box.lt;show w.heap.size<_;omega)).trans h.over,h.box.up HB3.out h.box.lt,h.fit,h.below.trans (HB3.out.mono h.below.size)⟩
     have HJO:=Lib.hid HJ.out.ok
     clear HJ HAX2 HNB HBB HB3 HBD cm o2 HBW
     go_wp2_with fail
     go_loopw [72] (λiv wr=>∃i:Nat,i<=l.length/\iv= .int .i64 (i:Int)/\Hid (VaK w s l gb k i wr)) (λiv _=>l.length-(intOf iv).toNat)
     case atStart=>exact⟨0,Nat.zero_le _,rfl,HK0⟩
     case round=>
      obtain⟨i,hi,rfl,HK⟩:=hrel
      clear HK0
      by_cases hil:i=l.length
      ·
       subst hil
       have HNX:Hid (VaJ w s gb (k+1) wr):=by
        have h:=HK.out
        have e:Ni (gK s k) (l.take l.length)=gK s (k+1):=by rw[List.take_length];show _=Ni (gK s k) (axL s k);rw[HL.out]
        refine⟨h.over,by rw[<-e];exact h.box,λi hi=>?_,by rw[<-e];exact h.fit,h.below⟩
        by_cases eik:i=k
        · rw[eik,<-HL.out,<-HSO.out];exact HOK.out
        · exact HJO.out i ω
       clear HK HJO HOK
       go_wp2_with fail
       exact⟨⟨k+1,ω,rfl,HNX⟩,by simp only[intOf];omega⟩
      ·
       have hil2:i<l.length:=by omega
       have hii:(i:Int)<(l.length:Int):=by omega
       have ci:=HC.out wr HK.out.below i hil2
       rw[Nat.mul_one] at ci
       have HNX:Hid (∀w2,Below wr.heap.size wr w2->VaK w s l gb k (i+1) ((w2.setCell ⟨gb,0,none⟩ (.bool (decide ((Ni (gK s k) (l.take (i+1)):Int)<0)))).setCell ⟨gb,1,none⟩ (.string (Dx (Ni (gK s k) (l.take (i+1)):Int).natAbs)))):=λw2 hb=>by
        have h:=HK.out
        refine⟨?_,(h.box.up hb h.box.lt).store _,?_,Below.store2 (h.below.trans (hb.mono h.below.size)) ω _ _⟩
        · exact(World.cell?_of_block (Fy _ _ (by show w.heap.size≠gb;omega))).trans ((hb.cell (p:=⟨w.heap.size,2,none⟩) (by have:=h.box.lt;show w.heap.size<_;omega)).trans h.over)
        ·
         rw[fB _ _ hil2]
         have:=uF h.fit (Jp (HLI.out i).1 (HLI.out i).2)
         rw[Int.natAbs_natCast] at this
         exact this
       obtain⟨x,hx⟩:∃x,x=l.getD i 0:=⟨_,rfl⟩
       have hxi:=HLI.out i
       rw[<-hx] at hxi ci
       have HOX:=Lib.hid (Px (wr:=wr) (λwa=>Ld x wa hxi.1 hxi.2))
       have HGC:=Lib.hid (Px (wr:=wr) (λwa=>oT (Ni (gK s k) (l.take i):Int) x wa HK.out.fit (Jp hxi.1 hxi.2)))
       rw[Int.natAbs_natCast,hx,<-fB _ _ hil2,<-hx] at HGC
       have CX:Hid (∀wa,Below wr.heap.size wr wa->wa.heap[gb]?=some (.cells #[.bool (decide ((Ni (gK s k) (l.take i):Int)<0)),.string (Dx (Ni (gK s k) (l.take i):Int).natAbs)] 70 (0,0))):=λwa hb=>HK.out.box.up hb HK.out.box.lt
       unfold Ak at HOX HGC
       obtain⟨xg,hxg⟩:∃g,g=decide (x<0):=⟨_,rfl⟩
       obtain⟨xs,hxs⟩:∃g,g=Dx x.natAbs:=⟨_,rfl⟩
       obtain⟨ug,hug⟩:∃g,g=decide ((Ni (gK s k) (l.take i):Int)<0):=⟨_,rfl⟩
       obtain⟨us,hus⟩:∃g,g=Dx (Ni (gK s k) (l.take i):Int).natAbs:=⟨_,rfl⟩
       obtain⟨vg,hvg⟩:∃g,g=decide ((Ni (gK s k) (l.take (i+1)):Int)<0):=⟨_,rfl⟩
       obtain⟨vs,hvs⟩:∃g,g=Dx (Ni (gK s k) (l.take (i+1)):Int).natAbs:=⟨_,rfl⟩
       rw[<-hxg,<-hxs] at HOX HGC
       rw[<-hug,<-hus] at HGC CX
       rw[<-hvg,<-hvs] at HGC HNX
       clear hxg hxs hug hus hvg hvs hxi hx HK HJO HOK
       go_wp2_with fail
       refine Dc 4 85 (λw'=>Below wr.heap.size wr w') [is (.agg #[.bool ug,.string us]),is (.int .i64 x),is (.agg #[.bool xg,.string xs]),is (.agg #[.bool vg,.string vs])] κ κ rfl δ ?hst ?h0 ?hop ?htail
       case hst=>
        simp only[List.mem_cons,List.mem_nil_iff,or_false,forall_eq_or_imp,forall_eq]
        exact⟨Ab _,Ab _,Ab _,Ab _⟩
       case h0=>exact(Below.refl _ _).drew
       case hop=>
        refine⟨?_,?_,?_,?_,trivial⟩
        · exact Bb 70 (.tmp 3) (.pointer (some ⟨gb,0,none⟩)) (.agg #[.bool ug,.string us]) rfl κ (λwa hC=>Dq [.bool ug,.string us] wa κ κ (Lm (CX.out wa hC))) rfl
        · exact Cy (.tmp 7) (is (.int .i64 x)) rfl κ (λ_ _ _ h=>h)
        · exact Cd 95 [.tmp 77] _ [.int .i64 x] rfl (λ_ _=>by kernel_rfl) ⟨κ,trivial⟩ HOX.out
        · exact Cd 98 [.tmp 76,.tmp 78] _ [.agg #[.bool ug,.string us],.agg #[.bool xg,.string xs]] rfl (λ_ _=>by kernel_rfl) ⟨κ,κ,trivial⟩ HGC.out
       case htail=>
       intro τ w2 hC hR
       have r3:τ 3= .agg #[.bool vg,.string vs]:=hR 3 δ
       simp only[Bl,List.getElem?_toArray,List.getElem?_cons_succ,List.getElem?_cons_zero,Option.bind_some,Act.put,List.setIfInBounds_toArray,List.set_cons_succ,List.set_cons_zero,List.drop_succ_cons,List.drop_zero,r3]
       clear hR r3
       have HN2:=Lib.hid (HNX.out w2 hC)
       have h1:=CX.out w2 hC
       obtain⟨c0,c1⟩:=Aw h1
       have f0:=Dv h1 0
       have f1:=Dv h1 1
       clear hC h1 CX HOX HGC HNX
       go_wp2_with fail
       exact⟨⟨i+1,ω,rfl,HN2⟩,by simp only[intOf];omega⟩
theorem kK (s:Sg) (Ax Ay Az:Option Addr) (cx cy cz:Nat) (w:World)
  (hx:Qu w (.slice Ax s.x.length cx) s.x) (hy:Qu w (.slice Ay s.y.length cy) s.y) (hz:Qu w (.slice Az s.z.length cz) s.z)
  (hi:∀k i,-9223372036854775808<=(axL s k).getD i 0/\(axL s k).getD i 0<=9223372036854775807):
  Calls Tryz.prog 92 #[.agg #[.int .i64 s.f,.int .i64 s.t,.int .i64 s.o,.slice Ax s.x.length cx,.slice Ay s.y.length cy,.slice Az s.z.length cz]] w λe w'=>e= .returned (.bool (decide (Hc s)))/\Below w.heap.size w w':=by
 by_cases hh:Jd s.f s.t s.o
 exact xL s Ax Ay Az cx cy cz w hh hx hy hz hi
 refine(Abn s.f s.t s.o Ax Ay Az _ cx _ cy _ cz w hh).mono ?_
 rintro e w' ⟨rfl,hb⟩
 exact⟨by rw[decide_eq_false (λh:Hc s=>hh h.1)],hb⟩
structure Bd (e:Nat) (z:Int):Prop where
 le:z.natAbs<=2^e
theorem Bd.fit {e:Nat} {z:Int} (h:Bd e z) (he:e<=60000):Fp z:=by
 unfold Fp
 have h1:z.natAbs<2^(e+1):=by
  have:=h.le
  have h2:0<2^e:=Nat.pow_pos δ
  rw[Nat.pow_succ]
  omega
 exact Nat.le_trans (Gk.2 h1) ω
theorem Bd.mono {e f:Nat} {z:Int} (h:Bd e z) (hf:e<=f):Bd f z:=⟨Nat.le_trans h.le (Nat.pow_le_pow_right δ hf)⟩
theorem Bd.add {e:Nat} {x y:Int} (h:Bd e x) (k:Bd e y):Bd (e+1) (x+y):=⟨by
 have:=Int.natAbs_add_le x y
 have h1:=h.le
 have h2:=k.le
 rw[Nat.pow_succ]
 omega⟩
theorem Bd.mul {e f:Nat} {x y:Int} (h:Bd e x) (k:Bd f y):Bd (e+f) (x*y):=⟨by
 rw[Int.natAbs_mul,Nat.pow_add]
 exact Nat.mul_le_mul h.le k.le⟩
theorem Bd.pow {e:Nat} {x:Int} (h:Bd e x) (k:Nat):Bd (e*k) (x^k):=⟨by
 rw[Int.natAbs_pow,Nat.pow_mul]
 exact Nat.pow_le_pow_left h.le k⟩
theorem Bd.int {x:Int} (h0: -9223372036854775808<=x) (h1:x<=9223372036854775807):Bd 63 x:=⟨by
 have:(2:Nat)^63=9223372036854775808:=by decide
 omega⟩
theorem Bd.zero (e:Nat):Bd e 0:=⟨by simp⟩
theorem Bd.div {e:Nat} {x:Int} (h:Bd e x) (y:Int):Bd e (x/y):=⟨Nat.le_trans (Int.natAbs_ediv_le_natAbs x y) h.le⟩
theorem Bd.gcd {e:Nat} {x y:Int} (h:Bd e x) (k:Bd e y):Bd e (Nat.gcd x.natAbs y.natAbs:Int):=⟨by
 rw[Int.natAbs_natCast]
 by_cases hx:x.natAbs=0
 rw[hx,Nat.gcd_zero_left];exact k.le
 exact Nat.le_trans (Nat.gcd_le_left _ ω) h.le⟩
def Ut (l:List Int) (a d:Int):Nat->Int
 |0=>0
 |k+1=>Ut l a d k+l.getD k 0*(a^k*d^(5-k))
abbrev Cm (x:Int):Prop:= -9223372036854775808<=x/\x<=9223372036854775807
structure Td (s:Sg):Prop where
 f:Cm s.f
 t:Cm s.t
 o:Cm s.o
 x:∀i,Cm (s.x.getD i 0)
 y:∀i,Cm (s.y.getD i 0)
 z:∀i,Cm (s.z.getD i 0)
theorem Qe {x a d:Int} (hx:Cm x) (ha:Cm a) (hd:Cm d) {k:Nat} (hk:k<=5):Bd 378 (x*(a^k*d^(5-k))):=
 ((Bd.int hx.1 hx.2).mul (((Bd.int ha.1 ha.2).pow k).mul ((Bd.int hd.1 hd.2).pow (5-k)))).mono ω
theorem Ul {l:List Int} {a d:Int} (hl:∀i,Cm (l.getD i 0)) (ha:Cm a) (hd:Cm d):∀k,k<=6->Bd (378+k) (Ut l a d k)
 |0,_=>Bd.zero _
 |k+1,hk=>(Ul hl ha hd k ω).add ((Qe (hl k) ha hd ω).mono ω)
def rU (s:Sg) (a d:Int):Int:=Ut s.x a d s.x.length
def plY (s:Sg) (a d:Int):Int:=Ut s.y a d s.y.length
def plZ (s:Sg) (a d:Int):Int:=Ut s.z a d s.z.length
def cE (s:Sg) (d:Int):Int:=s.o*d^5
def plG (s:Sg) (a d:Int):Int:=((Nat.gcd ((Nat.gcd (Nat.gcd (cE s d).natAbs (rU s a d).natAbs:Int).natAbs (plY s a d).natAbs:Nat):Int).natAbs (plZ s a d).natAbs:Nat):Int)
structure PL where
 x:Int
 y:Int
 z:Int
 o:Int
deriving DecidableEq
def Em (s:Sg) (a d:Int):PL:=⟨rU s a d/plG s a d,plY s a d/plG s a d,plZ s a d/plG s a d,cE s d/plG s a d⟩
end Go.Proofs.YtldnjomacnjhnaaGreat
namespace Go.Proofs.YtldnjomacnjhnaaGreat
open Go.Proofs.Tryz
open Go.RowKit
theorem Aaa (z:Int) (w:World) (hfit:Fp z):Calls Tryz.prog 172 #[Ak z] w λe w'=>e= .returned (.int .i64 z.sign)/\Below w.heap.size w w':=by
 have HVA:=Lib.hid (λw=>Ju z w hfit)
 have HOF:=Lib.hid (λw=>Mw z _ w rfl (Nat.le_trans hfit.bytes δ))
 clear hfit
 unfold Ak at*
 obtain⟨ng,hng⟩:∃ng,ng=decide (z<0):=⟨_,rfl⟩
 obtain⟨s,hs⟩:∃s,s=Dx z.natAbs:=⟨_,rfl⟩
 rw[<-hng,<-hs] at HVA HOF ⊢
 clear hng hs
 obtain⟨W,hW⟩:∃W,W=w.alloc (.cells #[.bool ng,.string s] 70):=⟨_,rfl⟩
 have hh:W.heap[w.heap.size]?=some (.cells #[.bool ng,.string s] 70 (0,0)):=by rw[hW];exact heap_alloc_new w _
 have hsW:W.heap.size=w.heap.size+1:=by rw[hW];simp
 have HB:Hid (Below w.heap.size w W):=by unfold Hid;rw[hW];exact(Below.refl _ _).alloc (Nat.le_refl _) _
 obtain⟨a0,a1⟩:=Aw hh
 have HH:=Lib.hid hh
 clear hh
 go_enter func172,ntmps172
 go_upto_region 1 with fail
 rw[<-hW]
 clear hW
 go_wp2_with fail
 refine(HVA.out _).mono ?_
 rintro e w1 ⟨rfl,hb1⟩
 have HB1:Hid (Below w.heap.size w w1):=HB.out.trans (hb1.mono HB.out.size)
 obtain⟨b0,b1⟩:=Aw ((hb1.block w.heap.size ω).trans HH.out)
 clear a0 a1 hb1 HB HH hsW
 go_wp2_with fail
 refine(HOF.out _).mono ?_
 rintro e w2 ⟨v,rfl,hv,hb2⟩
 have HB2:Hid (Below w.heap.size w w2):=HB1.out.trans (hb2.mono HB1.out.size)
 have HS:=Lib.hid (oV z v w2 hv)
 clear b0 b1 hb2 HB1 hv
 go_wp2_with fail
 refine HS.out.mono ?_
 rintro e w3 ⟨rfl,hb3⟩
 have HB3:Hid (Below w.heap.size w w3):=HB2.out.trans (hb3.mono HB2.out.size)
 clear hb3 HS HB2
 go_wp2_with fail
 go_ret
 exact⟨rfl,HB3.out⟩
theorem Acw (z:Int) (w:World) (hfit:Fp z):Calls Tryz.prog 179 #[Ak z] w λe w'=>e= .returned (.int .i64 (bitLen z.natAbs:Int))/\Below w.heap.size w w':=by
 have HVA:=Lib.hid (λw=>Ju z w hfit)
 have HLO:=Lib.hid (λw=>Vt z.natAbs _ w rfl (Nat.le_trans hfit.bytes δ))
 have HLE:=Lib.hid (Nat.le_trans hfit.digits (by decide:1024<=1000000))
 clear hfit
 unfold Ak at*
 obtain⟨ng,hng⟩:∃ng,ng=decide (z<0):=⟨_,rfl⟩
 obtain⟨n,hn⟩:∃n,n=z.natAbs:=⟨_,rfl⟩
 rw[<-hng,<-hn] at HVA ⊢
 rw[<-hn] at HLO HLE
 obtain⟨s,hs⟩:∃s,s=Dx n:=⟨_,rfl⟩
 rw[<-hs] at HVA HLO ⊢
 clear hng hs hn
 obtain⟨W,hW⟩:∃W,W=w.alloc (.cells #[.bool ng,.string s] 70):=⟨_,rfl⟩
 have hh:W.heap[w.heap.size]?=some (.cells #[.bool ng,.string s] 70 (0,0)):=by rw[hW];exact heap_alloc_new w _
 have hsW:W.heap.size=w.heap.size+1:=by rw[hW];simp
 have HB:Hid (Below w.heap.size w W):=by unfold Hid;rw[hW];exact(Below.refl _ _).alloc (Nat.le_refl _) _
 obtain⟨a0,a1⟩:=Aw hh
 have HH:=Lib.hid hh
 clear hh
 go_enter func179,ntmps179
 go_upto_region 1 with fail
 rw[<-hW]
 clear hW
 go_wp2_with fail
 refine(HVA.out _).mono ?_
 rintro e w1 ⟨rfl,hb1⟩
 have HB1:Hid (Below w.heap.size w w1):=HB.out.trans (hb1.mono HB.out.size)
 obtain⟨b0,b1⟩:=Aw ((hb1.block w.heap.size ω).trans HH.out)
 clear a0 a1 hb1 HB HH hsW
 go_wp2_with fail
 refine(HLO.out _).mono ?_
 rintro e w2 ⟨v,rfl,hv,hb2⟩
 have HB2:Hid (Below w.heap.size w w2):=HB1.out.trans (hb2.mono HB1.out.size)
 have HS:=Lib.hid (cR n v _ _ w2 hv HLE.out)
 clear b0 b1 hb2 HB1 hv
 go_wp2_with fail
 refine HS.out.mono ?_
 rintro e w3 ⟨rfl,rfl⟩
 clear HS
 go_wp2_with fail
 go_ret
 exact⟨rfl,HB2.out⟩
theorem pQ (z:Int) (w:World) (hfit:Fp z) (h0:¬(-9223372036854775808<=z/\z<=9223372036854775807)):Calls Tryz.prog 68 #[Ak z] w λe w'=>e= .returned (.tuple #[.int .i64 0,.int .i64 3])/\Below w.heap.size w w':=by
 have HVA:=Lib.hid (λw=>Ju z w hfit)
 have HOF:=Lib.hid (λw=>Mw z _ w rfl (Nat.le_trans hfit.bytes δ))
 have HR0:=Lib.hid h0
 clear hfit h0
 unfold Ak at*
 obtain⟨ng,hng⟩:∃ng,ng=decide (z<0):=⟨_,rfl⟩
 obtain⟨s,hs⟩:∃s,s=Dx z.natAbs:=⟨_,rfl⟩
 rw[<-hng,<-hs] at HVA HOF ⊢
 clear hng hs
 obtain⟨W,hW⟩:∃W,W=w.alloc (.cells #[.bool ng,.string s] 70):=⟨_,rfl⟩
 have hh:W.heap[w.heap.size]?=some (.cells #[.bool ng,.string s] 70 (0,0)):=by rw[hW];exact heap_alloc_new w _
 have hsW:W.heap.size=w.heap.size+1:=by rw[hW];simp
 have HB:Hid (Below w.heap.size w W):=by unfold Hid;rw[hW];exact(Below.refl _ _).alloc (Nat.le_refl _) _
 obtain⟨a0,a1⟩:=Aw hh
 have HH:=Lib.hid hh
 clear hh
 go_enter func68,ntmps68
 go_upto_region 1 with fail
 rw[<-hW]
 clear hW
 go_wp2_with fail
 refine(HVA.out _).mono ?_
 rintro e w1 ⟨rfl,hb1⟩
 have HB1:Hid (Below w.heap.size w w1):=HB.out.trans (hb1.mono HB.out.size)
 obtain⟨b0,b1⟩:=Aw ((hb1.block w.heap.size ω).trans HH.out)
 clear a0 a1 hb1 HB HH hsW
 go_wp2_with fail
 refine(HOF.out _).mono ?_
 rintro e w2 ⟨v,rfl,hv,hb2⟩
 have HB2:Hid (Below w.heap.size w w2):=HB1.out.trans (hb2.mono HB1.out.size)
 clear b0 b1 hb2 HB1
 obtain⟨kg,mv,n,rfl,hn,hz⟩:=hv
 have hna:z.natAbs=n:=by rw[<-hz,Zr]
 have hn0:n≠0:=λe=>by have:=HR0.out;omega
 have hpos:0<(Al n).length:=List.length_pos_iff.2 λe=>hn0 (Iu.1 e)
 obtain⟨b,o,c,rfl,_,hb,hc⟩:=hn.1.pos hpos
 have g0:w2.cell? ⟨b,o,none⟩=some (.int .u64 (dg (Al n) 0:Int)):=hc 0 _ (Ds (Al n) 0 hpos)
 have HB3:Hid (Below w.heap.size w (w2.alloc (.cells #[.bool kg,.slice (some ⟨b,o,none⟩) (Al n).length c] 153))):=HB2.out.alloc HB2.out.size _
 have g1:(w2.alloc (.cells #[.bool kg,.slice (some ⟨b,o,none⟩) (Al n).length c] 153)).cell? ⟨b,o,none⟩=some (.int .u64 (dg (Al n) 0:Int)):=(Below.cell ((Below.refl w2.heap.size w2).alloc (Nat.le_refl _) _) (p:=⟨b,o,none⟩) hb).trans g0
 have key:(Al n).length=1->dg (Al n) 0=n:=λh1=>by
  have:=Ei (Al n) 0
  rw[Im ω,Df,Kz] at this
  simp at this;exact this.symm
 have HK:Hid ((Al n).length=1->(kg=true->9223372036854775808<dg (Al n) 0)/\(kg=false->9223372036854775808<=dg (Al n) 0)):=λh1=>by
  rw[key h1]
  have h2:=HR0.out
  exact⟨λe=>by
   subst e;have:z= -(n:Int):=by rw[<-hz];rfl
   omega,λe=>by
    subst e;have:z=(n:Int):=by rw[<-hz];rfl
    omega⟩
 generalize (Al n).length=L at*
 generalize dg (Al n) 0=D at*
 clear hn hz hna hn0 hc g0 key
 by_cases hL:L=1
 ·
  subst hL
  have HKK:=Lib.hid (HK.out rfl)
  clear HK
  cases kg with
  |true=>
   have h1:=HKK.out.1 rfl
   go_wp2_with fail
   all_goals first
    |(exfalso;omega)
    |(go_ret2;exact⟨rfl,HB3.out⟩)
  |false=>
   have h1:=HKK.out.2 rfl
   go_wp2_with fail
   all_goals first
    |(exfalso;omega)
    |(go_ret2;exact⟨rfl,HB3.out⟩)
 ·
  clear HK
  go_wp2_with fail
  all_goals first
   |(exfalso;omega)
   |(go_ret2;exact⟨rfl,HB3.out⟩)
end Go.Proofs.YtldnjomacnjhnaaGreat