/- Part 10 of the proof of EX.row_holds, joined by program: no condition beyond the row's own. -/
import Derived.Test.YtkcnbaeoahoglaaGreatX9
import Derived.Deep.LoopGhost
set_option maxRecDepth 100000
set_option maxHeartbeats 40000000
namespace Go.Proofs.YtkcnbaeoahoglaaGreat
open Tryz
open Go.RowKit
def fK (w:World) (n:Nat) (e:Ending) (w':World):Prop:=∃v',e= .returned v'/\Cg w' 0 w'.heap.size v' n/\Below w.heap.size w w'
structure Aci (w:World) (G a b:Nat) (va vb:Value) (wr:World):Prop where
 na:Cg wr 0 wr.heap.size va a
 nb:Cg wr 0 wr.heap.size vb b
 g:Nat.gcd a b=G
 below:Below w.heap.size w wr
 la:(Bo a).length<=100000
 lb:(Bo b).length<=100000
theorem Abe (n m:Nat) (v v':Value) (l0 h0 l1 h1:Nat) (w:World) (h:Cg w l0 h0 v n) (h':Cg w l1 h1 v' m) (hh:h0<=w.heap.size) (hh':h1<=w.heap.size) (hl:(Bo n).length<=100000) (hl':(Bo m).length<=100000):
  Calls Tryz.prog 121 #[v,v'] w (fK w (Nat.gcd n m)):=by
 have HJ0:Hid (Aci w (Nat.gcd n m) n m v v' w):=⟨h.more (Nat.zero_le _) hh,h'.more (Nat.zero_le _) hh',rfl,Below.refl _ _,hl,hl'⟩
 clear h h' hh hh' hl hl'
 obtain⟨G,hG⟩:∃G,G=Nat.gcd n m:=⟨_,rfl⟩
 rw[<-hG] at HJ0 ⊢
 clear hG
 go_enter func121,ntmps121
 go_wp2_with fail
 go_loopg [0,1,5,6] m (λb va vb _ _ wr=>∃a:Nat,Hid (Aci w G a b va vb wr))
 case atStart=>exact⟨n,HJ0⟩
 case round=>
  obtain⟨a,HJ⟩:=hrel
  clear HJ0
  obtain⟨A,c,hvb⟩:=HJ.out.nb.1.slice
  subst hvb
  by_cases hb:gk=0
  ·
   subst hb
   have hz:((Bo 0).length:Int)=0:=by rw[Ea];rfl
   have HA:Hid (a=G):=by have:=HJ.out.g;rw[Nat.gcd_zero_right] at this;exact this
   go_wp2_with fail
   go_ret
   refine⟨_,rfl,?_,HJ.out.below⟩
   rw[<-HA.out];exact HJ.out.na
  ·
   have hp:0<((Bo gk).length:Int):=by have:=List.length_pos_iff.2 λe=>hb (Jd.1 e);omega
   have HD:=Lib.hid (qP a gk _ (.slice A (Bo gk).length c) 0 _ 0 _ _ HJ.out.na HJ.out.nb (Nat.le_refl _) (Nat.le_refl _) HJ.out.la HJ.out.lb (Nat.pos_of_ne_zero hb))
   have hpn:0<(Bo gk).length:=by omega
   go_wp2_with fail
   refine HD.out.mono ?_
   rintro e w2 ⟨vq,vr,rfl,_,hr,hb2⟩
   have HN:Hid (Aci w G gk (a%gk) (.slice A (Bo gk).length c) vr w2):=by
    refine⟨HJ.out.nb.up (Nat.le_refl _) hb2,hr,?_,HJ.out.below.trans (hb2.mono HJ.out.below.size),HJ.out.lb,Nat.le_trans (Lk (Nat.mod_le _ _)) HJ.out.la⟩
    rw[<-HJ.out.g,Nat.gcd_comm a gk,Nat.gcd_rec gk a,Nat.gcd_comm]
   have hlt:a%gk<gk:=Nat.mod_lt _ (Nat.pos_of_ne_zero hb)
   have HLT:=Lib.hid hlt
   clear hlt hr hb2
   generalize a%gk=r at*
   go_wp2_with fail
   go_roundg r
   case measure=>exact HLT.out
   case rel=>exact⟨gk,HN⟩
theorem Aas (w:World):(sizeOf 128).run Tryz.prog w= .ok 1 w:=by kernel_rfl
def Cw (z:Nat):ByteArray:=⟨(be z).toArray⟩
theorem Ux (z:Nat):(Cw z).size=(be z).length:=by simp[Cw,ByteArray.size]
structure xC (w:World) (z L i:Nat) (ls:List Nat) (wr:World):Prop where
 row:Ci wr w.heap.size ls
 below:Below w.heap.size w wr
 len:ls.length=(Bo z).length
 dig:Ja ls
 sum:val ls=z/256^(L-i)*256^(L-i)
theorem Vi (z L:Nat) (w:World) (hL:L=(be z).length) (hl:L<=400000):Calls Tryz.prog 86 #[.string (Cw z)] w (Er w z):=by
 have hll:=aS z
 rw[<-hL] at hll
 obtain⟨K,hK⟩:∃K,K=(Bo z).length:=⟨_,rfl⟩
 rw[<-hK] at hll
 have hmk:=Ki K (by omega) w
 obtain⟨V,hV⟩:∃V,V=w.alloc (.cells (Mc (List.replicate K 0)) 128):=⟨_,rfl⟩
 rw[<-hV] at hmk
 have HJ0:Hid (xC w z L 0 (List.replicate K 0) V):=by
  refine⟨by rw[hV];exact Ci.made _ _ _,by rw[hV];exact(Below.refl _ _).alloc (Nat.le_refl _) _,by simp[hK],Ja.zeros _,?_⟩
  rw[Tb,Nat.sub_zero]
  have:=Aco (be z)
  rw[nI,<-hL] at this
  rw[Nat.div_eq_of_lt this,Nat.zero_mul]
 clear hV
 have HK:=Lib.hid hK
 have hsz:(Cw z).size=L:=by rw[Ux,hL]
 have hd8:((L:Int)+7).tdiv 8=(K:Int):=by
  rw[Int.tdiv_eq_ediv_of_nonneg (by omega)];omega
 have HBY:Hid (∀i k b (h:i<(Cw z).size),k=L-1-i->b=((Cw z)[i]).toNat->b=z/256^k%256):=λi k b h hk hb=>by
  rw[Ux] at h
  rw[hb,hk,hL];exact AbT z i h
 have HL:=Lib.hid hL
 have HLL:=Lib.hid hll
 have hKb:K<=50001:=by omega
 clear hK hL hll
 obtain⟨s,hs⟩:∃s,s=Cw z:=⟨_,rfl⟩
 rw[<-hs] at hsz HBY ⊢
 clear hs
 have hKw:wrap64 (K:Int)=(K:Int):=IntWalk.wrap64_in _ (by omega)
 go_enter func86,ntmps86
 go_wp2_with (rw[hd8])
 go_loopw [4,5,13] (λ_ _ iv wr=>∃(i:Nat) (ls:List Nat),i<=L/\iv= .int .i64 (i:Nat)/\Hid (xC w z L i ls wr)) (λ_ _ i _=>L-(intOf i).toNat)
 case atStart=>exact⟨0,_,Nat.zero_le _,rfl,HJ0⟩
 case round=>
  obtain⟨i,ls,hi,rfl,HJ⟩:=hrel
  clear HJ0 hmk
  by_cases hiL:i=L
  ·
   subst hiL
   have HV:Hid (ls=Bo z):=zE HJ.out.dig (by have:=HJ.out.sum;rw[Nat.sub_self,Nat.pow_zero,Nat.div_one,Nat.mul_one] at this;exact this) HJ.out.len
   have HS:Hid (Cz wr w.heap.size wr.heap.size 1 (.slice (some ⟨w.heap.size,0,none⟩) K K) (Bo z).length (Jf (Bo z))):=by
    have h1:=HJ.out.row.sees (j:=0) (n:=K) (c:=K) (lo:=w.heap.size) (hi:=wr.heap.size) (by rw[HJ.out.len,<-HK.out];omega) (Nat.le_refl _) HJ.out.row.lt
    rw[List.drop_zero,List.take_of_length_le (by rw[HJ.out.len,<-HK.out];omega),HV.out] at h1
    unfold Hid
    rw[<-HK.out];exact h1
   go_wp2_with fail
   go_ret
   refine⟨_,rfl,⟨HS.out,?_⟩,HJ.out.below⟩
   show K<=K
   exact Nat.le_refl _
  ·
   have hin:i<L:=by omega
   have hii:(i:Int)<(L:Int):=by omega
   obtain⟨k,hk⟩:∃k,k=L-1-i:=⟨_,rfl⟩
   have hLi:L-i=k+1:=by omega
   have hLi1:L-(i+1)=k:=by omega
   obtain⟨L1,hL1⟩:∃L1,L1=L-1:=⟨_,rfl⟩
   have hw1:wrap64 ((L:Int)-1)=(L1:Int):=by rw[IntWalk.wrap64_in _ (by omega)];omega
   have hkk:(L:Int)-1-(i:Int)=(k:Int):=by omega
   have hw2:wrap64 ((L1:Int)-(i:Int))=(k:Int):=by rw[IntWalk.wrap64_in _ (by omega)];omega
   obtain⟨q,hq⟩:∃q,q=k/8:=⟨_,rfl⟩
   obtain⟨m,hm⟩:∃m,m=k%8:=⟨_,rfl⟩
   obtain⟨r,hr⟩:∃r,r=8*(k%8):=⟨_,rfl⟩
   have hkq:(k:Int).tdiv 8=(q:Int):=by rw[hq];rfl
   have hkm:(k:Int).tmod 8=(m:Int):=by rw[hm];rfl
   have HMR:Hid (IntKind.i64.wrap ((m:Int)*8)=(r:Int)):=by unfold Hid;rw[IntWalk.i64_in _ (by omega)];omega
   have hr64:r<64:=by omega
   have hqK:q<K:=by have:=HLL.out;omega
   have hqKi:(q:Int)<(K:Int):=by omega
   have HQI:Hid (IntKind.i64.wrap (q:Int)=(q:Int)):=IntWalk.i64_in _ (by omega)
   have gb:wr.cell? ⟨w.heap.size,q,none⟩=some (.int .u64 (dg ls q:Int)):=HJ.out.row.cell (by rw[HJ.out.len,<-HK.out];exact hqK)
   have hin':i<s.size:=by rw[hsz];exact hin
   obtain⟨b,hb⟩:∃b,b=(s[i]'hin').toNat:=⟨_,rfl⟩
   have hbe:=HBY.out i k b hin' hk hb
   have HST:=tV HJ.out.dig hq hr (by rw[HJ.out.len,<-HK.out];exact hqK) (by have:=HJ.out.sum;rw[hLi] at this;exact this) hbe
   have HB:=Lib.hid hb
   have HSTH:=Lib.hid HST
   have HNX:Hid (∀w2,Ci w2 w.heap.size (ls.set q (dg ls q+b*2^r))->Below w.heap.size w w2->xC w z L (i+1) (ls.set q (dg ls q+b*2^r)) w2):=λw2 h hb=>
    ⟨h,hb,by rw[List.length_set];exact HJ.out.len,HJ.out.dig.set HSTH.out.2.1,by rw[hLi1];exact HSTH.out.2.2⟩
   have hb256:b<256:=by rw[hb];exact(s[i]'hin').toNat_lt
   have HUB:Hid (dg ls q<Bw):=Ix HJ.out.dig q
   obtain⟨u,hu⟩:∃u,u=dg ls q:=⟨_,rfl⟩
   rw[<-hu] at gb HSTH HNX HUB
   obtain⟨t,ht⟩:∃t,t=u+b*2^r:=⟨_,rfl⟩
   rw[<-ht] at HNX HSTH
   have h3:b*2^r<Bw:=by have:=HSTH.out.2.1;rw[ht] at this;omega
   have HSH:Hid (IntKind.u64.wrap ((b:Int)*2^r)=(b:Int)*2^r):=by
    unfold Hid;rw[Ot,Nat.mod_eq_of_lt h3];simp
   have HOR:Hid (bits .or .u64 (u:Int) ((b:Int)*2^r)=(t:Int)):=by
    have:=Ng HUB.out h3
    rw[HSTH.out.1] at this
    unfold Hid
    rw[<-this];simp
   have HBW:Hid (IntKind.u64.wrap (b:Int)=(b:Int)):=Cy (by have:Bw=18446744073709551616:=rfl;omega)
   have HBS:Hid (((s[i]'hin').toNat:Int)=(b:Int)):=by unfold Hid;rw[<-hb]
   clear hk hL1 hq hm hr hLi hLi1 hbe hb HST hu ht HLL HSTH hb256 h3
   go_wp2_with fail
   have CB:Hid (∀wa,Below wr.heap.size wr wa->wa.cell? ⟨w.heap.size,0+q*1,none⟩=some (.int .u64 (u:Int))):=λwa h=>by
    rw[Nat.zero_add,Nat.mul_one]
    exact(h.cell (p:=⟨w.heap.size,q,none⟩) HJ.out.row.lt).trans gb
   refine Eb 14 38 (λw'=>Below wr.heap.size wr w') [is (.slice (some ⟨w.heap.size,0,none⟩) K K),is (.int .i64 (k:Int)),is (.int .i64 (q:Int)),is (.pointer (some ⟨w.heap.size,0+q*1,none⟩)),is (.int .u64 (u:Int)),is (.string s),is (.int .i64 (i:Int)),is (.int .u8 (b:Int)),is (.int .u64 (b:Int)),is (.int .i64 (k:Int)),is (.int .i64 (m:Int)),is (.int .i64 (r:Int)),is (.int .u64 ((b*2^r:Nat):Int)),is (.int .u64 (t:Int))] (by kernel_rfl) (by kernel_rfl) rfl (by decide) ?hst ?h0 ?hop ?htail
   case hst=>
    simp only[List.mem_cons,List.mem_nil_iff,or_false,forall_eq_or_imp,forall_eq]
    exact⟨Aj _,Aj _,Aj _,Aj _,Aj _,Aj _,Aj _,Aj _,Aj _,Aj _,Aj _,Aj _,Aj _,Aj _⟩
   case h0=>exact(Below.refl _ _).drew
   case hop=>
    refine⟨?_,?_,?_,?_,?_,?_,?_,?_,?_,?_,?_,?_,?_,?_,trivial⟩
    · exact Dw (.tmp 3) (is (.slice (some ⟨w.heap.size,0,none⟩) K K)) rfl (by kernel_rfl) (λ_ _ _ h=>h)
    · exact Dw (.tmp 5) (is (.int .i64 (k:Int))) rfl (by kernel_rfl) (λ_ _ _ h=>h)
    · exact aX 22 (.int .i64 8) (.int .i64 (k:Int)) (.int .i64 (q:Int)) rfl (by kernel_rfl) (λa wa _ e1=>by go_simp;exact HQI.out) rfl
    · exact Mp 124 128 21 23 w.heap.size 0 K K 1 (q:Int) q rfl (by kernel_rfl) (by kernel_rfl) underlying124 Aas rfl hqK rfl
    · exact Cf 128 (.tmp 24) (.pointer (some ⟨w.heap.size,0+q*1,none⟩)) (.int .u64 (u:Int)) rfl (by kernel_rfl) (λwa hC=>Bz wa (by kernel_rfl) (CB.out wa hC)) rfl
    · exact Dw (.tmp 0) (is (.string s)) rfl (by kernel_rfl) (λ_ _ _ h=>h)
    · exact Dw (.tmp 4) (is (.int .i64 (i:Int))) rfl (by kernel_rfl) (λ_ _ _ h=>h)
    · exact Vo 26 27 (.string s) (.int .i64 (i:Int)) (.int .u8 (b:Int)) rfl (by kernel_rfl) (by kernel_rfl) (λa wa _ e1 e2=>by go_simp;exact HBS.out) rfl
    · exact Vn 28 (.int .u8 (b:Int)) (.int .u64 (b:Int)) rfl (by kernel_rfl) (λa wa _ e1=>by go_simp;exact HBW.out) rfl
    · exact Dw (.tmp 5) (is (.int .i64 (k:Int))) rfl (by kernel_rfl) (λ_ _ _ h=>h)
    · exact aX 30 (.int .i64 8) (.int .i64 (k:Int)) (.int .i64 (m:Int)) rfl (by kernel_rfl) (λa wa _ e1=>by go_simp) rfl
    · exact aX 31 (.int .i64 8) (.int .i64 (m:Int)) (.int .i64 (r:Int)) rfl (by kernel_rfl) (λa wa _ e1=>by go_simp;exact HMR.out) rfl
    · exact Vo 29 32 (.int .u64 (b:Int)) (.int .i64 (r:Int)) (.int .u64 ((b*2^r:Nat):Int)) rfl (by kernel_rfl) (by kernel_rfl) (λa wa _ e1 e2=>by go_simp;exact HSH.out) rfl
    · exact Vo 25 33 (.int .u64 (u:Int)) (.int .u64 ((b*2^r:Nat):Int)) (.int .u64 (t:Int)) rfl (by kernel_rfl) (by kernel_rfl) (λa wa _ e1 e2=>by go_simp;exact HOR.out) rfl
   case htail=>
   intro τ w2 hC hR
   have r2:τ 2= .int .i64 (q:Int):=hR 2 (by decide)
   have r0:τ 0= .slice (some ⟨w.heap.size,0,none⟩) K K:=hR 0 (by decide)
   have r13:τ 13= .int .u64 (t:Int):=hR 13 (by decide)
   simp only[Ch,List.getElem?_toArray,List.getElem?_cons_succ,List.getElem?_cons_zero,Option.bind_some,Act.put,List.setIfInBounds_toArray,List.set_cons_succ,List.set_cons_zero,List.drop_succ_cons,List.drop_zero,r0,r2,r13]
   clear hR r0 r2 r13
   have HR2:Hid (Ci w2 w.heap.size ls):=HJ.out.row.below hC HJ.out.row.lt
   have HB2:Hid (Below w.heap.size w w2):=HJ.out.below.trans (hC.mono HJ.out.below.size)
   have gb2:w2.cell? ⟨w.heap.size,q,none⟩=some (.int .u64 (u:Int)):=(hC.cell (p:=⟨w.heap.size,q,none⟩) HJ.out.row.lt).trans gb
   have gf2:=HR2.out.frozen q
   have HN:=Lib.hid (HNX.out _ (HR2.out.set q t) (HB2.out.setCell (Nat.le_refl _) _))
   clear gb
   go_wp2_with fail
   exact⟨⟨i+1,_,by omega,rfl,HN⟩,by simp only[intOf];omega⟩
def fQ (w:World) (b:Nat) (l:List UInt8):Prop:=∃cur t,w.heap[b]?=some (.cells cur t (0,0))/\∀i (h:i<l.length),cur[i]?=some (.int .u8 (l[i].toNat:Int))
theorem fQ.cell {w:World} {b:Nat} {l:List UInt8} (h:fQ w b l) {i:Nat} (hi:i<l.length):w.cell? ⟨b,i,none⟩=some (.int .u8 (l[i].toNat:Int)):=by
 obtain⟨cur,t,hr,hc⟩:=h
 rw[<-hc i hi];simp[World.cell?,hr]
theorem fQ.frozen {w:World} {b:Nat} {l:List UInt8} (h:fQ w b l) (i:Nat):w.frozen? ⟨b,i,none⟩=false:=by
 obtain⟨cur,t,hr,hc⟩:=h
 simp[World.frozen?,hr]
theorem fQ.set {w:World} {b:Nat} {l:List UInt8} (h:fQ w b l) (i:Nat) (x:UInt8):fQ (w.setCell ⟨b,i,none⟩ (.int .u8 (x.toNat:Int))) b (l.set i x):=by
 obtain⟨cur,t,hr,hc⟩:=h
 refine⟨cur.setIfInBounds i (.int .u8 (x.toNat:Int)),t,by simp[World.setCell,Array.getElem?_modify,hr],λj hj=>?_⟩
 rw[List.length_set] at hj
 have:=hc j hj
 rw[Array.getElem?_setIfInBounds,List.getElem_set]
 by_cases e:i=j
 subst e
 rw[if_pos rfl,if_pos (Array.getElem?_eq_some_iff.1 this).1,if_pos rfl]
 rw[if_neg e,if_neg e];exact this
theorem AbM:(Tryz.prog.info? 5).map (λi=>(i.zero,i.size,i.bytes))=some (some (.int .u8 0),1,1):=by kernel_rfl
theorem Abk (n:Nat) (hn:n<=10000000) (w:World):∃cs,(Instr.makeSlice 198 (.int .i64 (n:Nat)) (.int .i64 (n:Nat))).run Tryz.prog w= .ok (.slice (some ⟨w.heap.size,0,none⟩) n n) (w.alloc (.cells cs 5))/\
  fQ (w.alloc (.cells cs 5)) w.heap.size (List.replicate n 0):=by
 obtain⟨i0,hi0,hz0,hz1,hz2⟩:=info_parts AbM
 have:=run_makeSlice w 198 5 i0 _ underlying198 hi0 hz0 .i64 .i64 (n:Nat) (n:Nat) (by omega) (by omega) (by rw[hz1];simp;omega) (by rw[hz2];omega) (by omega)
 rw[hz1] at this
 simp only[Int.toNat_natCast] at this
 refine⟨_,this,madeCells (Value.int .u8 0).cells (n*1),5,heap_alloc_new _ _,λi h=>?_⟩
 simp at h
 simp[madeCells,Value.cells,Nat.mod_one,h]
structure nG (w:World) (z L i:Nat) (wr:World):Prop where
 row:fQ wr w.heap.size ((be z).take i++List.replicate (L-i) 0)
 below:Below w.heap.size w wr
theorem vL {l:List UInt8} {L i:Nat} (hl:l.length=L) (hi:i<L):(l.take i++List.replicate (L-i) 0).set i (l[i]'(by omega))=l.take (i+1)++List.replicate (L-(i+1)) 0:=by
 subst hl
 rw[List.set_append,List.length_take_of_le (by omega),if_neg (by omega),Nat.sub_self,List.take_succ_eq_append_getElem hi,List.append_assoc]
 congr 1
 rw[show l.length-i=(l.length-(i+1))+1 by omega,List.replicate_succ]
 rfl
theorem vK (z L:Nat) (v:Value) (l0 h0:Nat) (w:World) (h:Cg w l0 h0 v z) (hh:h0<=w.heap.size) (hL:L=(be z).length) (hl:L<=400000):
  Calls Tryz.prog 107 #[v] w λe w'=>e= .returned (.string (Cw z))/\Below w.heap.size w w':=by
 have hll:=aS z
 rw[<-hL] at hll
 have hbl:=Sn z
 rw[<-hL] at hbl
 obtain⟨K,hK⟩:∃K,K=(Bo z).length:=⟨_,rfl⟩
 rw[<-hK] at hll
 have HSZ:=Lib.hid (bR z v l0 h0 w h (by rw[<-hK];omega))
 have hsv:=h.1
 obtain⟨A,c,rfl⟩:=hsv.slice
 have HS:=Lib.hid hsv
 clear h hsv
 obtain⟨B,hB⟩:∃B,B=bitLen z:=⟨_,rfl⟩
 rw[<-hB] at hbl HSZ
 have hd8H:Hid (((B:Int)+7).tdiv 8=(L:Int)):=by unfold Hid;rw[Int.tdiv_eq_ediv_of_nonneg (by omega)];omega
 have hBb:B<=3200000:=by omega
 have hLwH:Hid (wrap64 (L:Int)=(L:Int)):=IntWalk.wrap64_in _ (by omega)
 obtain⟨cs,hmk,hrow⟩:=Abk L (by omega) w
 obtain⟨V,hV⟩:∃V,V=w.alloc (.cells cs 5):=⟨_,rfl⟩
 rw[<-hV] at hmk hrow
 have HJ0:Hid (nG w z L 0 V):=⟨by simpa using hrow,by rw[hV];exact(Below.refl _ _).alloc (Nat.le_refl _) _⟩
 have HBY:Hid (∀i k (h:i<(be z).length),k=L-1-i->((be z)[i]).toNat=dg (Bo z) (k/8)/2^(8*(k%8))%256):=λi k h hk=>by
  rw[pC,hk,hL];exact AbT z i h
 have HL:=Lib.hid hL
 have HK:=Lib.hid hK
 have HLL:=Lib.hid hll
 rw[<-hK] at HSZ ⊢
 clear hV hrow hL hK hll hbl hB
 have hd8:=hd8H.out
 have hLw:=hLwH.out
 go_enter func107,ntmps107
 go_wp2_with fail
 refine HSZ.out.mono ?_
 rintro e w' ⟨rfl,rfl⟩
 go_wp2_with (rw[hd8])
 go_loopw [4,5,13] (λ_ _ iv wr=>∃i:Nat,i<=L/\iv= .int .i64 (i:Nat)/\Hid (nG w z L i wr)) (λ_ _ i _=>L-(intOf i).toNat)
 case atStart=>exact⟨0,Nat.zero_le _,rfl,HJ0⟩
 case round=>
  obtain⟨i,hi,rfl,HJ⟩:=hrel
  clear HJ0 hmk hd8
  by_cases hiL:i=L
  ·
   subst hiL
   have hcv:(convert 198 9 (.slice (some ⟨w.heap.size,0,none⟩) i i)).run Tryz.prog wr= .ok (.string (Cw z)) wr:=by
    have hr:=HJ.out.row
    rw[Nat.sub_self,List.replicate_zero,List.append_nil,List.take_of_length_le (by rw[HL.out];exact Nat.le_refl _)] at hr
    have:=run_convert_bytes_back (P:=Tryz.prog) wr 198 9 5 ⟨w.heap.size,0,none⟩ i (be z) underlying198 underlying5 underlying9 (λj hj=>by
     rw[Fx,Nat.zero_add,hr.cell hj])
    rw[<-HL.out] at this
    exact this
   have HBW:=Lib.hid HJ.out.below
   clear HJ
   go_wp2_with (rw[hcv])
   go_ret
   exact⟨rfl,HBW.out⟩
  ·
   have hin:i<L:=by omega
   have hii:(i:Int)<(L:Int):=by omega
   obtain⟨k,hk⟩:∃k,k=L-1-i:=⟨_,rfl⟩
   obtain⟨L1,hL1⟩:∃L1,L1=L-1:=⟨_,rfl⟩
   have hw1H:Hid (wrap64 ((L:Int)-1)=(L1:Int)):=by unfold Hid;rw[IntWalk.wrap64_in _ (by omega)];omega
   have hkk:(L:Int)-1-(i:Int)=(k:Int):=by omega
   have hw2H:Hid (wrap64 ((L1:Int)-(i:Int))=(k:Int)):=by unfold Hid;rw[IntWalk.wrap64_in _ (by omega)];omega
   obtain⟨q,hq⟩:∃q,q=k/8:=⟨_,rfl⟩
   obtain⟨m,hm⟩:∃m,m=k%8:=⟨_,rfl⟩
   obtain⟨r,hr⟩:∃r,r=8*(k%8):=⟨_,rfl⟩
   have hkqH:Hid ((k:Int).tdiv 8=(q:Int)):=by unfold Hid;rw[hq];rfl
   have hkmH:Hid ((k:Int).tmod 8=(m:Int)):=by unfold Hid;rw[hm];rfl
   have hmrH:Hid (wrap64 ((m:Int)*8)=(r:Int)):=by unfold Hid;rw[IntWalk.wrap64_in _ (by omega)];omega
   have hmr8:(m:Int)*8=(r:Int):=by omega
   have hr64:r<64:=by omega
   have hqK:q<K:=by have:=HLL.out;omega
   have hqKi:(q:Int)<(K:Int):=by omega
   have hqwH:Hid (wrap64 (q:Int)=(q:Int)):=IntWalk.wrap64_in _ (by omega)
   have hil:i<(be z).length:=by rw[<-HL.out];exact hin
   have hbe:=HBY.out i k hil hk
   rw[<-hq,<-hr] at hbe
   have HK1:=Lib.hid hk
   clear hk hL1 hq hm hr
   obtain⟨b,o,c1,e,_,hb1,hc⟩:=HS.out.pos (by rw[<-HK.out];omega)
   have hA:A=some ⟨b,o,none⟩:=by cases e;rfl
   subst hA
   clear e
   have g0:wr.cell? ⟨b,o+q,none⟩=some (.int .u64 (dg (Bo z) q:Int)):=(HJ.out.below.cell (p:=⟨b,o+q,none⟩) (by show b<_;omega)).trans (hc _ _ (Ev _ _ (by rw[<-HK.out];exact hqK)))
   clear hc
   obtain⟨y,hy⟩:∃y,y=(be z)[i]:=⟨_,rfl⟩
   rw[<-hy] at hbe
   have HNX:Hid (nG w z L (i+1) (wr.setCell ⟨w.heap.size,i,none⟩ (.int .u8 (y.toNat:Int)))):=by
    refine⟨?_,HJ.out.below.setCell (Nat.le_refl _) _⟩
    have:=HJ.out.row.set i y
    rw[hy,vL HL.out.symm hin] at this
    rw[hy];exact this
   have hlen:((be z).take i++List.replicate (L-i) 0).length=L:=by
    rw[List.length_append,List.length_take_of_le (by rw[<-HL.out];exact hi),List.length_replicate];omega
   have gb:∃u,wr.cell? ⟨w.heap.size,i,none⟩=some u:=⟨_,HJ.out.row.cell (i:=i) (by rw[hlen];exact hin)⟩
   obtain⟨u,gb⟩:=gb
   have gf:=HJ.out.row.frozen i
   obtain⟨x,hx⟩:∃x,x=dg (Bo z) q:=⟨_,rfl⟩
   rw[<-hx] at g0 hbe
   have hby:IntKind.u8.wrap ((x:Int)/2^r)=(y.toNat:Int):=by
    rw[hbe,show ((x:Int)/2^r)=((x/2^r:Nat):Int) by simp,IntKind.wrap_u8];omega
   obtain⟨yn,hyn⟩:∃yn,yn=y.toNat:=⟨_,rfl⟩
   rw[<-hyn] at hby HNX
   clear hbe hx hy hlen hyn
   have hw1:=hw1H.out
   have hw2:=hw2H.out
   have hkq:=hkqH.out
   have hkm:=hkmH.out
   have hmr:=hmrH.out
   have hqw:=hqwH.out
   go_wp2_with fail
   exact⟨⟨i+1,by omega,rfl,HNX⟩,by simp only[intOf];omega⟩
def It (neg:Bool) (n:Nat):Int:=if neg then -(n:Int) else n
theorem Zc (neg:Bool) (n:Nat):(It neg n).natAbs=n:=by unfold It;split<;>simp
theorem Aaj (z:Int):It (decide (z<0)) z.natAbs=z:=by unfold It;by_cases h:z<0<;>simp[h]<;>omega
def Ai (z:Int):Value:= .agg #[.bool (decide (z<0)),.string (Cw z.natAbs)]
def Jj (v:Value) (w:World) (z:Int):Prop:=∃neg mv n,v= .agg #[.bool neg,mv]/\Cg w 0 w.heap.size mv n/\It neg n=z
theorem Jj.up {v:Value} {w w':World} {z:Int} (h:Jj v w z) (hb:Below w.heap.size w w'):Jj v w' z:=by
 obtain⟨neg,mv,n,e,hn,hz⟩:=h
 exact⟨neg,mv,n,e,hn.up (Nat.le_refl _) hb,hz⟩
def Kp (n:Nat) (v:Value) (w:World):Prop:=Cg w 0 w.heap.size v n
theorem Gp (n:Nat):Id (Kp n):=λ_ _ _ hb h=>Cg.up h (Nat.le_refl _) hb
def Dn (z:Int) (v:Value) (w:World):Prop:=Jj v w z
theorem En (z:Int):Id (Dn z):=λ_ _ _ hb h=>Jj.up h hb
def Zu (w:World) (z:Int) (e:Ending) (w':World):Prop:=∃v,e= .returned v/\Jj v w' z/\Below w.heap.size w w'
theorem Er.word {w0 w w':World} {n:Nat} {e:Ending} (h:Er w n e w') (hC:Below w0.heap.size w0 w):∃v,e= .returned v/\Below w0.heap.size w0 w'/\Below w.heap.size w w'/\Kp n v w':=by
 obtain⟨v,he,hv,hb⟩:=h
 exact⟨v,he,hC.trans (hb.mono hC.size),hb,hv.more (Nat.zero_le _) (Nat.le_refl _)⟩
theorem fK.word {w0 w w':World} {n:Nat} {e:Ending} (h:fK w n e w') (hC:Below w0.heap.size w0 w):∃v,e= .returned v/\Below w0.heap.size w0 w'/\Below w.heap.size w w'/\Kp n v w':=by
 obtain⟨v,he,hv,hb⟩:=h
 exact⟨v,he,hC.trans (hb.mono hC.size),hb,hv⟩
theorem Zu.word {w0 w w':World} {z:Int} {e:Ending} (h:Zu w z e w') (hC:Below w0.heap.size w0 w):∃v,e= .returned v/\Below w0.heap.size w0 w'/\Below w.heap.size w w'/\Dn z v w':=by
 obtain⟨v,he,hv,hb⟩:=h
 exact⟨v,he,hC.trans (hb.mono hC.size),hb,hv⟩
theorem Nq (w:World) (o o':Obj):((w.alloc o).alloc o').heap[w.heap.size]?=some o/\((w.alloc o).alloc o').heap[w.heap.size+1]?=some o':=by
 constructor
 show ((w.heap.push o).push o')[w.heap.size]?=some o
 simp[Array.getElem?_push]
 have:=heap_alloc_new (w.alloc o) o'
 rwa [World.size_alloc] at this
theorem Fu {w:World} {b:Nat} {u u' v v':Value} (h0:w.cell? ⟨b,0,none⟩=some u) (h1:w.cell? ⟨b,1,none⟩=some u'):
  ((w.setCell ⟨b,0,none⟩ v).setCell ⟨b,1,none⟩ v').cell? ⟨b,0,none⟩=some v/\((w.setCell ⟨b,0,none⟩ v).setCell ⟨b,1,none⟩ v').cell? ⟨b,1,none⟩=some v':=by
 constructor
 rw[World.cell?_setCell_other _ _ _ _ (by simp),World.cell?_setCell_same _ _ _ h0]
 exact World.cell?_setCell_same _ _ _ ((World.cell?_setCell_other _ _ _ _ (by simp)).trans h1)
def Nc:Value->Prop
 | .int _ _=>False
 |_=>True
theorem Cg.store2 {w:World} {lo hi:Nat} {v:Value} {n b:Nat} {x0 x1:Value} {t:TypeId} {fz:Nat×Nat} (h:Cg w lo hi v n) (hb:w.heap[b]?=some (.cells #[x0,x1] t fz)) (h0:Nc x0) (h1:Nc x1) (u0 u1:Value):
  Cg ((w.setCell ⟨b,0,none⟩ u0).setCell ⟨b,1,none⟩ u1) lo hi v n:=by
 refine⟨⟨h.1.1,?_⟩,h.2⟩
 rcases h.1.2 with h2|⟨b',o,c,e,hd,hc⟩
 exact .inl h2
 refine .inr ⟨b',o,c,e,hd,λj u hu=>?_⟩
 have h3:=hc j u hu
 have hj:=(List.getElem?_eq_some_iff.1 hu).1
 rw[Ey] at hj
 have hne:b≠b':=by
  intro e2
  subst e2
  rw[Ev _ _ hj] at hu
  cases hu
  simp only[World.cell?,hb] at h3
  generalize o+j=k at h3
  match k with
  |0=>simp at h3;subst h3;exact h0
  |1=>simp at h3;subst h3;exact h1
  |k+2=>simp at h3
 rw[World.cell?_setCell_other _ _ _ _ (by simp[hne]),World.cell?_setCell_other _ _ _ _ (by simp[hne])]
 exact h3
theorem Below.store2 {B:Nat} {a w:World} {b:Nat} (h:Below B a w) (hb:B<=b) (u0 u1:Value):Below B a ((w.setCell ⟨b,0,none⟩ u0).setCell ⟨b,1,none⟩ u1):=(h.setCell (p:=⟨b,0,none⟩) hb u0).setCell (p:=⟨b,1,none⟩) hb u1
theorem Gq (w:World) (b:Nat) (u0 u1:Value):((w.setCell ⟨b,0,none⟩ u0).setCell ⟨b,1,none⟩ u1).heap.size=w.heap.size:=by simp[World.setCell]
theorem Ss {w w2:World} {b n c:Nat} {A:Option Addr} {ng:Bool} {z:Int} {x0 x1:Value} {t:TypeId} {fz:Nat×Nat} (hM:Cg w2 0 w2.heap.size (.slice A (Bo n).length c) n) (hb:w2.heap[b]?=some (.cells #[x0,x1] t fz)) (h0:Nc x0) (h1:Nc x1)
  (hB:Below w.heap.size w w2) (hwb:w.heap.size<=b) (hz:It ng n=z):Zu w z (.returned (.agg #[.bool ng,.slice A (Bo n).length c])) ((w2.setCell ⟨b,0,none⟩ (.bool ng)).setCell ⟨b,1,none⟩ (.slice A (Bo n).length c)):=by
 refine⟨_,rfl,⟨ng,_,n,rfl,?_,hz⟩,Below.store2 hB hwb _ _⟩
 rw[Gq]
 exact hM.store2 hb h0 h1 _ _
theorem Mo (z:Int) (L:Nat) (w:World) (hL:L=(be z.natAbs).length) (hl:L<=400000):Calls Tryz.prog 67 #[Ai z] w (Zu w z):=by
 have HL:=Lib.hid hL
 clear hL
 obtain⟨ng,hng⟩:∃ng,ng=decide (z<0):=⟨_,rfl⟩
 obtain⟨n,hn⟩:∃n,n=z.natAbs:=⟨_,rfl⟩
 have HZ:Hid (It ng n=z):=by rw[hng,hn];exact Aaj z
 unfold Ai
 rw[<-hn] at HL ⊢
 rw[<-hng]
 clear hng hn
 obtain⟨s,hs⟩:∃s,s=Cw n:=⟨_,rfl⟩
 have HLD:Hid (∀wa,Calls Tryz.prog 86 #[.string s] wa (Er wa n)):=λwa=>by rw[hs];exact Vi n L wa HL.out hl
 rw[<-hs]
 clear hs
 go_enter func67,ntmps67
 go_wp2_with fail
 obtain⟨W,hW⟩:∃W,W=(w.alloc (.cells #[.bool ng,.string s] 96)).alloc (.cells #[.bool false,.slice none 0 0] 126):=⟨_,rfl⟩
 rw[<-hW]
 have hsW:W.heap.size=w.heap.size+2:=by rw[hW];simp
 have CW:Hid (∀wa,Below W.heap.size W wa->wa.heap[w.heap.size]?=some (.cells #[.bool ng,.string s] 96 (0,0))/\wa.heap[w.heap.size+1]?=some (.cells #[.bool false,.slice none 0 0] 126 (0,0))):=λwa h=>by
  rw[h.block _ (by omega),h.block _ (by omega),hW]
  exact Nq w _ _
 have HBW:Hid (Below w.heap.size w W):=by unfold Hid;rw[hW];exact((Below.refl _ _).alloc (Nat.le_refl _) _).alloc (by simp) _
 clear hW
 refine Eb 5 9 (λw'=>Below W.heap.size W w') [is (.pointer (some ⟨w.heap.size,0,none⟩)),is (.bool ng),is (.pointer (some ⟨w.heap.size,1,none⟩)),is (.string s),Kp n] (by kernel_rfl) (by kernel_rfl) rfl (by decide) ?hst ?h0 ?hop ?htail
 case hst=>
  simp only[List.mem_cons,List.mem_nil_iff,or_false,forall_eq_or_imp,forall_eq]
  exact⟨Aj _,Aj _,Aj _,Aj _,Gp _⟩
 case h0=>exact(Below.refl _ _).drew
 case hop=>
  refine⟨?_,?_,?_,?_,?_,trivial⟩
  · exact Di 96 (.tmp 1) 0 (.pointer (some ⟨w.heap.size,0,none⟩)) (.pointer (some ⟨w.heap.size,0,none⟩)) rfl (by kernel_rfl) (λw=>by kernel_rfl) rfl
  · exact Cf 4 (.tmp 3) (.pointer (some ⟨w.heap.size,0,none⟩)) (.bool ng) rfl (by kernel_rfl) (λwa hC=>Bz wa (by kernel_rfl) (by simp[World.cell?,(CW.out wa hC).1])) rfl
  · exact Di 96 (.tmp 1) 1 (.pointer (some ⟨w.heap.size,0,none⟩)) (.pointer (some ⟨w.heap.size,1,none⟩)) rfl (by kernel_rfl) (λw=>by kernel_rfl) rfl
  · exact Cf 9 (.tmp 5) (.pointer (some ⟨w.heap.size,1,none⟩)) (.string s) rfl (by kernel_rfl) (λwa hC=>Bz wa (by kernel_rfl) (by simp[World.cell?,(CW.out wa hC).1])) rfl
  · exact Dc 86 [.tmp 6] _ [.string s] rfl (λ_ _=>by kernel_rfl) ⟨by kernel_rfl,trivial⟩ (λwa hC=>(HLD.out wa).mono λ_ _ h=>h.word hC)
 case htail=>
 intro τ w2 hC hR
 have r1:τ 1= .bool ng:=hR 1 (by decide)
 have r4:Kp n (τ 4) w2:=hR 4 (by decide)
 obtain⟨mv,hmv⟩:∃mv,mv=τ 4:=⟨_,rfl⟩
 rw[<-hmv] at r4
 simp only[Ch,List.getElem?_toArray,List.getElem?_cons_succ,List.getElem?_cons_zero,Option.bind_some,Act.put,List.setIfInBounds_toArray,List.set_cons_succ,List.set_cons_zero,List.drop_succ_cons,List.drop_zero,r1,<-hmv]
 clear hR r1 hmv
 have HM:=Lib.hid r4
 obtain⟨A,c,rfl⟩:=r4.1.slice
 clear r4
 have h1:=(CW.out w2 hC).2
 have HB2:Hid (Below w.heap.size w w2):=HBW.out.trans (hC.mono HBW.out.size)
 have c0:w2.cell? ⟨w.heap.size+1,0,none⟩=some (.bool false):=by simp[World.cell?,h1]
 have c1:w2.cell? ⟨w.heap.size+1,1,none⟩=some (.slice none 0 0):=by simp[World.cell?,h1]
 have f0:w2.frozen? ⟨w.heap.size+1,0,none⟩=false:=by simp[World.frozen?,h1]
 have f1:w2.frozen? ⟨w.heap.size+1,1,none⟩=false:=by simp[World.frozen?,h1]
 have HH:=Lib.hid h1
 clear hC CW h1
 go_wp2_with fail
 obtain⟨w3,hw3⟩:∃w3,w3=(w2.setCell ⟨w.heap.size+1,0,none⟩ (.bool ng)).setCell ⟨w.heap.size+1,1,none⟩ (.slice A (Bo n).length c):=⟨_,rfl⟩
 rw[<-hw3]
 obtain⟨k0,k1⟩:w3.cell? ⟨w.heap.size+1,0,none⟩=some (.bool ng)/\w3.cell? ⟨w.heap.size+1,1,none⟩=some (.slice A (Bo n).length c):=by
  rw[hw3];exact Fu c0 c1
 refine bodyPost_ret (v:= .agg #[.bool ng,.slice A (Bo n).length c]) (by simp[results,results67,go_sem,k0,k1]) rfl ?_
 rw[hw3]
 exact Ss HM.out HH.out trivial trivial HB2.out (by omega) HZ.out
theorem Im (w:World) (o o' o'':Obj):(((w.alloc o).alloc o').alloc o'').heap[w.heap.size]?=some o/\(((w.alloc o).alloc o').alloc o'').heap[w.heap.size+1]?=some o'/\(((w.alloc o).alloc o').alloc o'').heap[w.heap.size+2]?=some o'':=by
 have h:=Nq w o o'
 refine⟨(Below.heap_alloc _ _ _ (by simp;omega)).trans h.1,(Below.heap_alloc _ _ _ (by simp)).trans h.2,?_⟩
 have:=heap_alloc_new ((w.alloc o).alloc o') o''
 rwa [World.size_alloc,World.size_alloc] at this
theorem Cb {w:World} {b:Nat} {x0 x1:Value} {t:TypeId} {fz:Nat×Nat} (h:w.heap[b]?=some (.cells #[x0,x1] t fz)):w.cell? ⟨b,0,none⟩=some x0/\w.cell? ⟨b,1,none⟩=some x1:=by
 constructor<;>simp[World.cell?,h]
theorem Ex {w:World} {b:Nat} {x0 x1:Value} {t:TypeId} (h:w.heap[b]?=some (.cells #[x0,x1] t (0,0))) (i:Nat):w.frozen? ⟨b,i,none⟩=false:=by simp[World.frozen?,h]
theorem Abr (z:Int) (v:Value) (w:World) (h:Jj v w z):Calls Tryz.prog 111 #[v] w (Zu w (-z)):=by
 obtain⟨ng,mv,n,rfl,hn,hz⟩:=h
 have HN:=Lib.hid hn
 have HZ:Hid (It (!ng) n= -z):=by unfold Hid;rw[<-hz];cases ng<;>simp[It]
 obtain⟨A,c,rfl⟩:=hn.1.slice
 clear hn hz
 go_enter func111,ntmps111
 go_upto_region 1 with fail
 obtain⟨W,hW⟩:∃W,W=(w.alloc (.cells #[.bool ng,.slice A (Bo n).length c] 126)).alloc (.cells #[.bool false,.slice none 0 0] 126):=⟨_,rfl⟩
 rw[<-hW]
 have h2:=Nq w (.cells #[.bool ng,.slice A (Bo n).length c] 126) (.cells #[.bool false,.slice none 0 0] 126)
 rw[<-hW] at h2
 have HB:Hid (Below w.heap.size w W):=by unfold Hid;rw[hW];exact((Below.refl _ _).alloc (Nat.le_refl _) _).alloc (by simp) _
 clear hW
 obtain⟨a0,a1⟩:=Cb h2.1
 obtain⟨c0,c1⟩:=Cb h2.2
 have f0:=Ex h2.2 0
 have f1:=Ex h2.2 1
 have HH:=Lib.hid h2.2
 clear h2
 go_wp2_with fail
 obtain⟨w3,hw3⟩:∃w3,w3=(W.setCell ⟨w.heap.size+1,0,none⟩ (.bool (!ng))).setCell ⟨w.heap.size+1,1,none⟩ (.slice A (Bo n).length c):=⟨_,rfl⟩
 rw[<-hw3]
 obtain⟨k0,k1⟩:w3.cell? ⟨w.heap.size+1,0,none⟩=some (.bool (!ng))/\w3.cell? ⟨w.heap.size+1,1,none⟩=some (.slice A (Bo n).length c):=by
  rw[hw3];exact Fu c0 c1
 refine bodyPost_ret (v:= .agg #[.bool (!ng),.slice A (Bo n).length c]) (by simp[results,results111,go_sem,k0,k1]) rfl ?_
 rw[hw3]
 exact Ss (HN.out.up (Nat.le_refl _) HB.out) HH.out trivial trivial HB.out (by omega) HZ.out
theorem iT (b:Bool) (n m:Nat):It b (n+m)=It b n+It b m:=by unfold It;cases b<;>simp<;>omega
theorem oY {a b:Bool} (h:a≠b) {n m:Nat} (hm:m<=n):It a (n-m)=It a n+It b m:=by unfold It;cases a<;>cases b<;>simp at h ⊢<;>omega
theorem oZ {a b:Bool} (h:a≠b) {n m:Nat} (hm:n<=m):It b (m-n)=It a n+It b m:=by unfold It;cases a<;>cases b<;>simp at h ⊢<;>omega
theorem Ab9 (a b:Bool) (n m:Nat):It (a != b) (n*m)=It a n*It b m:=by unfold It;cases a<;>cases b<;>simp[Int.neg_mul,Int.mul_neg]
theorem Px {neg:Bool} {n:Nat} {z:Int} {k:Nat} (h:It neg n=z) (hk:(Bo z.natAbs).length<=k):(Bo n).length<=k:=by rw[<-h,Zc] at hk;exact hk
theorem Aa2 (x y:Int) (vx vy:Value) (w:World) (hx:Jj vx w x) (hy:Jj vy w y) (hl:(Bo x.natAbs).length<=40000) (hl':(Bo y.natAbs).length<=40000):Calls Tryz.prog 120 #[vx,vy] w (Zu w (x*y)):=by
 obtain⟨ng,mv,n,rfl,hn,hz⟩:=hx
 obtain⟨mg,mv',m,rfl,hm,hz'⟩:=hy
 have hln:=Px hz hl
 have hlm:=Px hz' hl'
 have HZ:=Lib.hid hz
 have HZ':=Lib.hid hz'
 have HN:=Lib.hid hn
 have HM:=Lib.hid hm
 obtain⟨A,c,rfl⟩:=hn.1.slice
 obtain⟨A',c',rfl⟩:=hm.1.slice
 have HLN:=Lib.hid hln
 have HLM:=Lib.hid hlm
 clear hn hm hz hz' hl hl' hln hlm
 obtain⟨W,hW⟩:∃W,W=((w.alloc (.cells #[.bool ng,.slice A (Bo n).length c] 126)).alloc (.cells #[.bool mg,.slice A' (Bo m).length c'] 126)).alloc (.cells #[.bool false,.slice none 0 0] 126):=⟨_,rfl⟩
 have h3:=Im w (.cells #[.bool ng,.slice A (Bo n).length c] 126) (.cells #[.bool mg,.slice A' (Bo m).length c'] 126) (.cells #[.bool false,.slice none 0 0] 126)
 rw[<-hW] at h3
 have hsW:W.heap.size=w.heap.size+3:=by rw[hW];simp
 have HB:Hid (Below w.heap.size w W):=by unfold Hid;rw[hW];exact(((Below.refl _ _).alloc (Nat.le_refl _) _).alloc (by simp) _).alloc (by simp;omega) _
 have HNW:Hid (Cg W 0 W.heap.size (.slice A (Bo n).length c) n):=HN.out.up (Nat.le_refl _) HB.out
 have HMW:Hid (Cg W 0 W.heap.size (.slice A' (Bo m).length c') m):=HM.out.up (Nat.le_refl _) HB.out
 have CW:Hid (∀wa,Below W.heap.size W wa->wa.heap[w.heap.size]?=some (.cells #[.bool ng,.slice A (Bo n).length c] 126 (0,0))/\wa.heap[w.heap.size+1]?=some (.cells #[.bool mg,.slice A' (Bo m).length c'] 126 (0,0))/\wa.heap[w.heap.size+2]?=some (.cells #[.bool false,.slice none 0 0] 126 (0,0))):=λwa h=>by
  rw[h.block _ (by omega),h.block _ (by omega),h.block _ (by omega)]
  exact h3
 obtain⟨a0,a1⟩:=Cb h3.1
 obtain⟨b0,b1⟩:=Cb h3.2.1
 clear h3
 have HMUL:Hid (∀wa,Below W.heap.size W wa->Calls Tryz.prog 126 #[.slice A (Bo n).length c,.slice A' (Bo m).length c'] wa (Er wa (n*m))):=λwa h=>
  gZ n m _ _ 0 W.heap.size 0 W.heap.size wa (HNW.out.below h) (HMW.out.below h) h.size h.size (by have:=HLN.out;omega) (by have:=HLM.out;omega)
 go_enter func120,ntmps120
 go_upto_region 1 with fail
 rw[<-hW]
 clear hW a0 a1 b0 b1
 refine Eb 10 16 (λw'=>Below W.heap.size W w') [is (.pointer (some ⟨w.heap.size,0,none⟩)),is (.bool ng),is (.pointer (some ⟨w.heap.size+1,0,none⟩)),is (.bool mg),is (.bool (ng != mg)),is (.pointer (some ⟨w.heap.size,1,none⟩)),is (.slice A (Bo n).length c),is (.pointer (some ⟨w.heap.size+1,1,none⟩)),is (.slice A' (Bo m).length c'),Kp (n*m)] (by kernel_rfl) (by kernel_rfl) rfl (by decide) ?hst ?h0 ?hop ?htail
 case hst=>
  simp only[List.mem_cons,List.mem_nil_iff,or_false,forall_eq_or_imp,forall_eq]
  exact⟨Aj _,Aj _,Aj _,Aj _,Aj _,Aj _,Aj _,Aj _,Aj _,Gp _⟩
 case h0=>exact(Below.refl _ _).drew
 case hop=>
  refine⟨?_,?_,?_,?_,?_,?_,?_,?_,?_,?_,trivial⟩
  · exact Di 126 (.tmp 2) 0 (.pointer (some ⟨w.heap.size,0,none⟩)) (.pointer (some ⟨w.heap.size,0,none⟩)) rfl (by kernel_rfl) (λw=>by kernel_rfl) rfl
  · exact Cf 4 (.tmp 5) (.pointer (some ⟨w.heap.size,0,none⟩)) (.bool ng) rfl (by kernel_rfl) (λwa hC=>Bz wa (by kernel_rfl) ((Cb (CW.out wa hC).1).1)) rfl
  · exact Di 126 (.tmp 3) 0 (.pointer (some ⟨w.heap.size+1,0,none⟩)) (.pointer (some ⟨w.heap.size+1,0,none⟩)) rfl (by kernel_rfl) (λw=>by kernel_rfl) rfl
  · exact Cf 4 (.tmp 7) (.pointer (some ⟨w.heap.size+1,0,none⟩)) (.bool mg) rfl (by kernel_rfl) (λwa hC=>Bz wa (by kernel_rfl) ((Cb (CW.out wa hC).2.1).1)) rfl
  · exact Vo 6 8 (.bool ng) (.bool mg) (.bool (ng != mg)) rfl (by kernel_rfl) (by kernel_rfl) (λa wa _ e1 e2=>by cases ng<;>cases mg<;>go_simp<;>rfl) rfl
  · exact Di 126 (.tmp 2) 1 (.pointer (some ⟨w.heap.size,0,none⟩)) (.pointer (some ⟨w.heap.size,1,none⟩)) rfl (by kernel_rfl) (λw=>by kernel_rfl) rfl
  · exact Cf 124 (.tmp 10) (.pointer (some ⟨w.heap.size,1,none⟩)) (.slice A (Bo n).length c) rfl (by kernel_rfl) (λwa hC=>Bz wa (by kernel_rfl) ((Cb (CW.out wa hC).1).2)) rfl
  · exact Di 126 (.tmp 3) 1 (.pointer (some ⟨w.heap.size+1,0,none⟩)) (.pointer (some ⟨w.heap.size+1,1,none⟩)) rfl (by kernel_rfl) (λw=>by kernel_rfl) rfl
  · exact Cf 124 (.tmp 12) (.pointer (some ⟨w.heap.size+1,1,none⟩)) (.slice A' (Bo m).length c') rfl (by kernel_rfl) (λwa hC=>Bz wa (by kernel_rfl) ((Cb (CW.out wa hC).2.1).2)) rfl
  · exact Dc 126 [.tmp 11,.tmp 13] _ [.slice A (Bo n).length c,.slice A' (Bo m).length c'] rfl (λ_ _=>by kernel_rfl) ⟨by kernel_rfl,by kernel_rfl,trivial⟩ (λwa hC=>(HMUL.out wa hC).mono λ_ _ h=>h.word hC)
 case htail=>
 intro τ w2 hC hR
 have r1:τ 4= .bool (ng != mg):=hR 4 (by decide)
 have r4:Kp (n*m) (τ 9) w2:=hR 9 (by decide)
 obtain⟨mv,hmv⟩:∃mv,mv=τ 9:=⟨_,rfl⟩
 rw[<-hmv] at r4
 simp only[Ch,List.getElem?_toArray,List.getElem?_cons_succ,List.getElem?_cons_zero,Option.bind_some,Act.put,List.setIfInBounds_toArray,List.set_cons_succ,List.set_cons_zero,List.drop_succ_cons,List.drop_zero,r1,<-hmv]
 clear hR r1 hmv
 obtain⟨k,hk⟩:∃k,k=n*m:=⟨_,rfl⟩
 obtain⟨bb,hbb⟩:∃bb,bb=(ng != mg):=⟨_,rfl⟩
 rw[<-hk] at r4
 rw[<-hbb]
 have HKZ:Hid (It bb k=x*y):=by unfold Hid;rw[hk,hbb];exact(Ab9 ng mg n m).trans (by rw[HZ.out,HZ'.out])
 clear hk hbb
 have HR4:=Lib.hid r4
 obtain⟨A2,c2,rfl⟩:=r4.1.slice
 clear r4
 have h1:=(CW.out w2 hC).2.2
 have HB2:Hid (Below w.heap.size w w2):=HB.out.trans (hC.mono HB.out.size)
 obtain⟨c0,c1⟩:=Cb h1
 have f0:=Ex h1 0
 have f1:=Ex h1 1
 have HH:=Lib.hid h1
 clear hC h1
 go_wp2_with fail
 obtain⟨w3,hw3⟩:∃w3,w3=(w2.setCell ⟨w.heap.size+2,0,none⟩ (.bool bb)).setCell ⟨w.heap.size+2,1,none⟩ (.slice A2 (Bo k).length c2):=⟨_,rfl⟩
 rw[<-hw3]
 obtain⟨k0,k1⟩:w3.cell? ⟨w.heap.size+2,0,none⟩=some (.bool bb)/\w3.cell? ⟨w.heap.size+2,1,none⟩=some (.slice A2 (Bo k).length c2):=by
  rw[hw3];exact Fu c0 c1
 refine bodyPost_ret (v:= .agg #[.bool bb,.slice A2 (Bo k).length c2]) (by simp[results,results120,go_sem,k0,k1]) rfl ?_
 rw[hw3]
 exact Ss HR4.out HH.out trivial trivial HB2.out (by omega) HKZ.out
theorem mQ (x y:Int) (vx vy:Value) (w:World) (hx:Jj vx w x) (hy:Jj vy w y) (hl:(Bo x.natAbs).length<=40000) (hl':(Bo y.natAbs).length<=40000):Calls Tryz.prog 90 #[vx,vy] w (Zu w (x+y)):=by
 obtain⟨ng,mv,n,rfl,hn,hz⟩:=hx
 obtain⟨mg,mv',m,rfl,hm,hz'⟩:=hy
 have hln:=Px hz hl
 have hlm:=Px hz' hl'
 have HZ:=Lib.hid hz
 have HZ':=Lib.hid hz'
 have HN:=Lib.hid hn
 have HM:=Lib.hid hm
 obtain⟨A,c,rfl⟩:=hn.1.slice
 obtain⟨A',c',rfl⟩:=hm.1.slice
 have HLN:=Lib.hid hln
 have HLM:=Lib.hid hlm
 clear hn hm hz hz' hl hl' hln hlm
 obtain⟨W,hW⟩:∃W,W=((w.alloc (.cells #[.bool ng,.slice A (Bo n).length c] 126)).alloc (.cells #[.bool mg,.slice A' (Bo m).length c'] 126)).alloc (.cells #[.bool false,.slice none 0 0] 126):=⟨_,rfl⟩
 have h3:=Im w (.cells #[.bool ng,.slice A (Bo n).length c] 126) (.cells #[.bool mg,.slice A' (Bo m).length c'] 126) (.cells #[.bool false,.slice none 0 0] 126)
 rw[<-hW] at h3
 have hsW:W.heap.size=w.heap.size+3:=by rw[hW];simp
 have HB:Hid (Below w.heap.size w W):=by unfold Hid;rw[hW];exact(((Below.refl _ _).alloc (Nat.le_refl _) _).alloc (by simp) _).alloc (by simp;omega) _
 have HNW:Hid (Cg W 0 W.heap.size (.slice A (Bo n).length c) n):=HN.out.up (Nat.le_refl _) HB.out
 have HMW:Hid (Cg W 0 W.heap.size (.slice A' (Bo m).length c') m):=HM.out.up (Nat.le_refl _) HB.out
 have CW:Hid (∀wa,Below W.heap.size W wa->wa.heap[w.heap.size]?=some (.cells #[.bool ng,.slice A (Bo n).length c] 126 (0,0))/\wa.heap[w.heap.size+1]?=some (.cells #[.bool mg,.slice A' (Bo m).length c'] 126 (0,0))/\wa.heap[w.heap.size+2]?=some (.cells #[.bool false,.slice none 0 0] 126 (0,0))):=λwa h=>by
  rw[h.block _ (by omega),h.block _ (by omega),h.block _ (by omega)]
  exact h3
 obtain⟨a0,a1⟩:=Cb h3.1
 obtain⟨b0,b1⟩:=Cb h3.2.1
 clear h3
 have HADD:Hid (∀wa,Below W.heap.size W wa->Calls Tryz.prog 104 #[.slice A (Bo n).length c,.slice A' (Bo m).length c'] wa (Er wa (n+m))):=λwa h=>
  qD n m _ _ 0 W.heap.size 0 W.heap.size wa (HNW.out.below h) (HMW.out.below h) h.size h.size (by have:=HLN.out;omega) (by have:=HLM.out;omega)
 by_cases hs:ng=mg
 ·
  have hsb:(ng==mg)=true:=by rw[hs];simp
  have HS:=Lib.hid hs
  clear hs
  go_enter func90,ntmps90
  go_upto_region 1 with fail
  rw[<-hW]
  clear hW
  go_wp2_with fail
  clear a0 a1 b0 b1
  refine Eb 7 42 (λw'=>Below W.heap.size W w') [is (.pointer (some ⟨w.heap.size,0,none⟩)),is (.bool ng),is (.pointer (some ⟨w.heap.size,1,none⟩)),is (.slice A (Bo n).length c),is (.pointer (some ⟨w.heap.size+1,1,none⟩)),is (.slice A' (Bo m).length c'),Kp (n+m)] (by kernel_rfl) (by kernel_rfl) rfl (by decide) ?hst ?h0 ?hop ?htail
  case hst=>
   simp only[List.mem_cons,List.mem_nil_iff,or_false,forall_eq_or_imp,forall_eq]
   exact⟨Aj _,Aj _,Aj _,Aj _,Aj _,Aj _,Gp _⟩
  case h0=>exact(Below.refl _ _).drew
  case hop=>
   refine⟨?_,?_,?_,?_,?_,?_,?_,trivial⟩
   · exact Di 126 (.tmp 2) 0 (.pointer (some ⟨w.heap.size,0,none⟩)) (.pointer (some ⟨w.heap.size,0,none⟩)) rfl (by kernel_rfl) (λw=>by kernel_rfl) rfl
   · exact Cf 4 (.tmp 11) (.pointer (some ⟨w.heap.size,0,none⟩)) (.bool ng) rfl (by kernel_rfl) (λwa hC=>Bz wa (by kernel_rfl) ((Cb (CW.out wa hC).1).1)) rfl
   · exact Di 126 (.tmp 2) 1 (.pointer (some ⟨w.heap.size,0,none⟩)) (.pointer (some ⟨w.heap.size,1,none⟩)) rfl (by kernel_rfl) (λw=>by kernel_rfl) rfl
   · exact Cf 124 (.tmp 13) (.pointer (some ⟨w.heap.size,1,none⟩)) (.slice A (Bo n).length c) rfl (by kernel_rfl) (λwa hC=>Bz wa (by kernel_rfl) ((Cb (CW.out wa hC).1).2)) rfl
   · exact Di 126 (.tmp 3) 1 (.pointer (some ⟨w.heap.size+1,0,none⟩)) (.pointer (some ⟨w.heap.size+1,1,none⟩)) rfl (by kernel_rfl) (λw=>by kernel_rfl) rfl
   · exact Cf 124 (.tmp 15) (.pointer (some ⟨w.heap.size+1,1,none⟩)) (.slice A' (Bo m).length c') rfl (by kernel_rfl) (λwa hC=>Bz wa (by kernel_rfl) ((Cb (CW.out wa hC).2.1).2)) rfl
   · exact Dc 104 [.tmp 14,.tmp 16] _ [.slice A (Bo n).length c,.slice A' (Bo m).length c'] rfl (λ_ _=>by kernel_rfl) ⟨by kernel_rfl,by kernel_rfl,trivial⟩ (λwa hC=>(HADD.out wa hC).mono λ_ _ h=>h.word hC)
  case htail=>
  intro τ w2 hC hR
  have r1:τ 1= .bool ng:=hR 1 (by decide)
  have r4:Kp (n+m) (τ 6) w2:=hR 6 (by decide)
  obtain⟨mv,hmv⟩:∃mv,mv=τ 6:=⟨_,rfl⟩
  rw[<-hmv] at r4
  simp only[Ch,List.getElem?_toArray,List.getElem?_cons_succ,List.getElem?_cons_zero,Option.bind_some,Act.put,List.setIfInBounds_toArray,List.set_cons_succ,List.set_cons_zero,List.drop_succ_cons,List.drop_zero,r1,<-hmv]
  clear hR r1 hmv
  obtain⟨k,hk⟩:∃k,k=n+m:=⟨_,rfl⟩
  obtain⟨bb,hbb⟩:∃bb,bb=ng:=⟨_,rfl⟩
  rw[<-hk] at r4
  rw[<-hbb]
  have HKZ:Hid (It bb k=x+y):=by unfold Hid;rw[hk,hbb];exact(iT ng n m).trans (by rw[HZ.out,HS.out,HZ'.out])
  clear hk hbb
  have HR4:=Lib.hid r4
  obtain⟨A2,c2,rfl⟩:=r4.1.slice
  clear r4
  have h1:=(CW.out w2 hC).2.2
  have HB2:Hid (Below w.heap.size w w2):=HB.out.trans (hC.mono HB.out.size)
  obtain⟨c0,c1⟩:=Cb h1
  have f0:=Ex h1 0
  have f1:=Ex h1 1
  have HH:=Lib.hid h1
  clear hC h1
  go_wp2_with fail
  obtain⟨w3,hw3⟩:∃w3,w3=(w2.setCell ⟨w.heap.size+2,0,none⟩ (.bool bb)).setCell ⟨w.heap.size+2,1,none⟩ (.slice A2 (Bo k).length c2):=⟨_,rfl⟩
  rw[<-hw3]
  obtain⟨k0,k1⟩:w3.cell? ⟨w.heap.size+2,0,none⟩=some (.bool bb)/\w3.cell? ⟨w.heap.size+2,1,none⟩=some (.slice A2 (Bo k).length c2):=by
   rw[hw3];exact Fu c0 c1
  refine bodyPost_ret (v:= .agg #[.bool bb,.slice A2 (Bo k).length c2]) (by simp[results,results90,go_sem,k0,k1]) rfl ?_
  rw[hw3]
  exact Ss HR4.out HH.out trivial trivial HB2.out (by omega) HKZ.out
 ·
  have hsb:(ng==mg)=false:=by simp[hs]
  have HS:=Lib.hid hs
  clear hs
  have HCMP:=Lib.hid (Nh n m _ _ 0 W.heap.size 0 W.heap.size W HNW.out HMW.out (by have:=HLN.out;omega) (by have:=HLM.out;omega))
  go_enter func90,ntmps90
  go_upto_region 1 with fail
  rw[<-hW]
  clear hW
  go_wp2_with fail
  refine HCMP.out.mono ?_
  rintro e w1 ⟨r,q1,rfl,hw1,HR⟩
  have HB1:Hid (Below w.heap.size w w1):=by rw[hw1];exact Jw HB.out q1
  have hs1:w1.heap.size=w.heap.size+3:=by rw[hw1];simpa using hsW
  have HN1:Hid (Cg w1 0 w1.heap.size (.slice A (Bo n).length c) n):=by rw[hs1,<-hsW,hw1];exact HNW.out.drewN q1
  have HM1:Hid (Cg w1 0 w1.heap.size (.slice A' (Bo m).length c') m):=by rw[hs1,<-hsW,hw1];exact HMW.out.drewN q1
  have CW1:Hid (∀wa,Below w1.heap.size w1 wa->wa.heap[w.heap.size]?=some (.cells #[.bool ng,.slice A (Bo n).length c] 126 (0,0))/\wa.heap[w.heap.size+1]?=some (.cells #[.bool mg,.slice A' (Bo m).length c'] 126 (0,0))/\wa.heap[w.heap.size+2]?=some (.cells #[.bool false,.slice none 0 0] 126 (0,0))):=λwa h=>by
   rw[h.block _ (by omega),h.block _ (by omega),h.block _ (by omega),hw1]
   simpa using CW.out W (Below.refl _ _)
  clear hw1 a0 a1 b0 b1 CW HNW HMW HB HADD hsW
  by_cases hr:r<0
  ·
   have HLT:Hid (n<m):=HR.lt.1 hr
   have HSUB:Hid (∀wa,Below w1.heap.size w1 wa->Calls Tryz.prog 105 #[.slice A' (Bo m).length c',.slice A (Bo n).length c] wa (Er wa (m-n))):=λwa h=>
    Py m n _ _ 0 w1.heap.size 0 w1.heap.size wa (HM1.out.below h) (HN1.out.below h) h.size h.size (by have:=HLM.out;omega) (Nat.le_of_lt HLT.out)
   have hr0:¬(0:Int)<=r:=by omega
   clear HR hr
   go_wp2_with fail
   refine Eb 7 42 (λw'=>Below w1.heap.size w1 w') [is (.pointer (some ⟨w.heap.size+1,0,none⟩)),is (.bool mg),is (.pointer (some ⟨w.heap.size+1,1,none⟩)),is (.slice A' (Bo m).length c'),is (.pointer (some ⟨w.heap.size,1,none⟩)),is (.slice A (Bo n).length c),Kp (m-n)] (by kernel_rfl) (by kernel_rfl) rfl (by decide) ?hst ?h0 ?hop ?htail
   case hst=>
    simp only[List.mem_cons,List.mem_nil_iff,or_false,forall_eq_or_imp,forall_eq]
    exact⟨Aj _,Aj _,Aj _,Aj _,Aj _,Aj _,Gp _⟩
   case h0=>exact(Below.refl _ _).drew
   case hop=>
    refine⟨?_,?_,?_,?_,?_,?_,?_,trivial⟩
    · exact Di 126 (.tmp 3) 0 (.pointer (some ⟨w.heap.size+1,0,none⟩)) (.pointer (some ⟨w.heap.size+1,0,none⟩)) rfl (by kernel_rfl) (λw=>by kernel_rfl) rfl
    · exact Cf 4 (.tmp 34) (.pointer (some ⟨w.heap.size+1,0,none⟩)) (.bool mg) rfl (by kernel_rfl) (λwa hC=>Bz wa (by kernel_rfl) ((Cb (CW1.out wa hC).2.1).1)) rfl
    · exact Di 126 (.tmp 3) 1 (.pointer (some ⟨w.heap.size+1,0,none⟩)) (.pointer (some ⟨w.heap.size+1,1,none⟩)) rfl (by kernel_rfl) (λw=>by kernel_rfl) rfl
    · exact Cf 124 (.tmp 36) (.pointer (some ⟨w.heap.size+1,1,none⟩)) (.slice A' (Bo m).length c') rfl (by kernel_rfl) (λwa hC=>Bz wa (by kernel_rfl) ((Cb (CW1.out wa hC).2.1).2)) rfl
    · exact Di 126 (.tmp 2) 1 (.pointer (some ⟨w.heap.size,0,none⟩)) (.pointer (some ⟨w.heap.size,1,none⟩)) rfl (by kernel_rfl) (λw=>by kernel_rfl) rfl
    · exact Cf 124 (.tmp 38) (.pointer (some ⟨w.heap.size,1,none⟩)) (.slice A (Bo n).length c) rfl (by kernel_rfl) (λwa hC=>Bz wa (by kernel_rfl) ((Cb (CW1.out wa hC).1).2)) rfl
    · exact Dc 105 [.tmp 37,.tmp 39] _ [.slice A' (Bo m).length c',.slice A (Bo n).length c] rfl (λ_ _=>by kernel_rfl) ⟨by kernel_rfl,by kernel_rfl,trivial⟩ (λwa hC=>(HSUB.out wa hC).mono λ_ _ h=>h.word hC)
   case htail=>
   intro τ w2 hC hR
   have r1:τ 1= .bool mg:=hR 1 (by decide)
   have r4:Kp (m-n) (τ 6) w2:=hR 6 (by decide)
   obtain⟨mv,hmv⟩:∃mv,mv=τ 6:=⟨_,rfl⟩
   rw[<-hmv] at r4
   simp only[Ch,List.getElem?_toArray,List.getElem?_cons_succ,List.getElem?_cons_zero,Option.bind_some,Act.put,List.setIfInBounds_toArray,List.set_cons_succ,List.set_cons_zero,List.drop_succ_cons,List.drop_zero,r1,<-hmv]
   clear hR r1 hmv
   obtain⟨k,hk⟩:∃k,k=m-n:=⟨_,rfl⟩
   obtain⟨bb,hbb⟩:∃bb,bb=mg:=⟨_,rfl⟩
   rw[<-hk] at r4
   rw[<-hbb]
   have HKZ:Hid (It bb k=x+y):=by unfold Hid;rw[hk,hbb];exact(oZ HS.out (Nat.le_of_lt HLT.out)).trans (by rw[HZ.out,HZ'.out])
   clear hk hbb
   have HR4:=Lib.hid r4
   obtain⟨A2,c2,rfl⟩:=r4.1.slice
   clear r4
   have h1:=(CW1.out w2 hC).2.2
   have HB2:Hid (Below w.heap.size w w2):=HB1.out.trans (hC.mono HB1.out.size)
   obtain⟨c0,c1⟩:=Cb h1
   have f0:=Ex h1 0
   have f1:=Ex h1 1
   have HH:=Lib.hid h1
   clear hC h1
   go_wp2_with fail
   obtain⟨w3,hw3⟩:∃w3,w3=(w2.setCell ⟨w.heap.size+2,0,none⟩ (.bool bb)).setCell ⟨w.heap.size+2,1,none⟩ (.slice A2 (Bo k).length c2):=⟨_,rfl⟩
   rw[<-hw3]
   obtain⟨k0,k1⟩:w3.cell? ⟨w.heap.size+2,0,none⟩=some (.bool bb)/\w3.cell? ⟨w.heap.size+2,1,none⟩=some (.slice A2 (Bo k).length c2):=by
    rw[hw3];exact Fu c0 c1
   refine bodyPost_ret (v:= .agg #[.bool bb,.slice A2 (Bo k).length c2]) (by simp[results,results90,go_sem,k0,k1]) rfl ?_
   rw[hw3]
   exact Ss HR4.out HH.out trivial trivial HB2.out (by omega) HKZ.out
  ·
   have HLE:Hid (m<=n):=by unfold Hid;have:=HR.lt;omega
   have HSUB:Hid (∀wa,Below w1.heap.size w1 wa->Calls Tryz.prog 105 #[.slice A (Bo n).length c,.slice A' (Bo m).length c'] wa (Er wa (n-m))):=λwa h=>
    Py n m _ _ 0 w1.heap.size 0 w1.heap.size wa (HN1.out.below h) (HM1.out.below h) h.size h.size (by have:=HLN.out;omega) HLE.out
   have hr0:(0:Int)<=r:=by omega
   clear HR hr
   go_wp2_with fail
   refine Eb 7 42 (λw'=>Below w1.heap.size w1 w') [is (.pointer (some ⟨w.heap.size,0,none⟩)),is (.bool ng),is (.pointer (some ⟨w.heap.size,1,none⟩)),is (.slice A (Bo n).length c),is (.pointer (some ⟨w.heap.size+1,1,none⟩)),is (.slice A' (Bo m).length c'),Kp (n-m)] (by kernel_rfl) (by kernel_rfl) rfl (by decide) ?hst ?h0 ?hop ?htail
   case hst=>
    simp only[List.mem_cons,List.mem_nil_iff,or_false,forall_eq_or_imp,forall_eq]
    exact⟨Aj _,Aj _,Aj _,Aj _,Aj _,Aj _,Gp _⟩
   case h0=>exact(Below.refl _ _).drew
   case hop=>
    refine⟨?_,?_,?_,?_,?_,?_,?_,trivial⟩
    · exact Di 126 (.tmp 2) 0 (.pointer (some ⟨w.heap.size,0,none⟩)) (.pointer (some ⟨w.heap.size,0,none⟩)) rfl (by kernel_rfl) (λw=>by kernel_rfl) rfl
    · exact Cf 4 (.tmp 26) (.pointer (some ⟨w.heap.size,0,none⟩)) (.bool ng) rfl (by kernel_rfl) (λwa hC=>Bz wa (by kernel_rfl) ((Cb (CW1.out wa hC).1).1)) rfl
    · exact Di 126 (.tmp 2) 1 (.pointer (some ⟨w.heap.size,0,none⟩)) (.pointer (some ⟨w.heap.size,1,none⟩)) rfl (by kernel_rfl) (λw=>by kernel_rfl) rfl
    · exact Cf 124 (.tmp 28) (.pointer (some ⟨w.heap.size,1,none⟩)) (.slice A (Bo n).length c) rfl (by kernel_rfl) (λwa hC=>Bz wa (by kernel_rfl) ((Cb (CW1.out wa hC).1).2)) rfl
    · exact Di 126 (.tmp 3) 1 (.pointer (some ⟨w.heap.size+1,0,none⟩)) (.pointer (some ⟨w.heap.size+1,1,none⟩)) rfl (by kernel_rfl) (λw=>by kernel_rfl) rfl
    · exact Cf 124 (.tmp 30) (.pointer (some ⟨w.heap.size+1,1,none⟩)) (.slice A' (Bo m).length c') rfl (by kernel_rfl) (λwa hC=>Bz wa (by kernel_rfl) ((Cb (CW1.out wa hC).2.1).2)) rfl
    · exact Dc 105 [.tmp 29,.tmp 31] _ [.slice A (Bo n).length c,.slice A' (Bo m).length c'] rfl (λ_ _=>by kernel_rfl) ⟨by kernel_rfl,by kernel_rfl,trivial⟩ (λwa hC=>(HSUB.out wa hC).mono λ_ _ h=>h.word hC)
   case htail=>
   intro τ w2 hC hR
   have r1:τ 1= .bool ng:=hR 1 (by decide)
   have r4:Kp (n-m) (τ 6) w2:=hR 6 (by decide)
   obtain⟨mv,hmv⟩:∃mv,mv=τ 6:=⟨_,rfl⟩
   rw[<-hmv] at r4
   simp only[Ch,List.getElem?_toArray,List.getElem?_cons_succ,List.getElem?_cons_zero,Option.bind_some,Act.put,List.setIfInBounds_toArray,List.set_cons_succ,List.set_cons_zero,List.drop_succ_cons,List.drop_zero,r1,<-hmv]
   clear hR r1 hmv
   obtain⟨k,hk⟩:∃k,k=n-m:=⟨_,rfl⟩
   obtain⟨bb,hbb⟩:∃bb,bb=ng:=⟨_,rfl⟩
   rw[<-hk] at r4
   rw[<-hbb]
   have HKZ:Hid (It bb k=x+y):=by unfold Hid;rw[hk,hbb];exact(oY HS.out HLE.out).trans (by rw[HZ.out,HZ'.out])
   clear hk hbb
   have HR4:=Lib.hid r4
   obtain⟨A2,c2,rfl⟩:=r4.1.slice
   clear r4
   have h1:=(CW1.out w2 hC).2.2
   have HB2:Hid (Below w.heap.size w w2):=HB1.out.trans (hC.mono HB1.out.size)
   obtain⟨c0,c1⟩:=Cb h1
   have f0:=Ex h1 0
   have f1:=Ex h1 1
   have HH:=Lib.hid h1
   clear hC h1
   go_wp2_with fail
   obtain⟨w3,hw3⟩:∃w3,w3=(w2.setCell ⟨w.heap.size+2,0,none⟩ (.bool bb)).setCell ⟨w.heap.size+2,1,none⟩ (.slice A2 (Bo k).length c2):=⟨_,rfl⟩
   rw[<-hw3]
   obtain⟨k0,k1⟩:w3.cell? ⟨w.heap.size+2,0,none⟩=some (.bool bb)/\w3.cell? ⟨w.heap.size+2,1,none⟩=some (.slice A2 (Bo k).length c2):=by
    rw[hw3];exact Fu c0 c1
   refine bodyPost_ret (v:= .agg #[.bool bb,.slice A2 (Bo k).length c2]) (by simp[results,results90,go_sem,k0,k1]) rfl ?_
   rw[hw3]
   exact Ss HR4.out HH.out trivial trivial HB2.out (by omega) HKZ.out
def cG (z:Int):Value:=if bitLen z.natAbs<=65536 then .tuple #[Ai z,.int .i64 0] else .tuple #[Ai 0,.int .i64 7]
theorem On {z:Int} (h:bitLen z.natAbs<=65536):cG z= .tuple #[Ai z,.int .i64 0]:=by unfold cG;rw[if_pos h]
def qC (w:World) (z:Int) (e:Ending) (w':World):Prop:=e= .returned (cG z)/\Below w.heap.size w w'
theorem jZ:Cw 0=⟨#[]⟩:=by unfold Cw;rw[Nd]
theorem AbA {neg:Bool} {n:Nat}:decide (It neg n<0)=(neg&&decide (0<n)):=by unfold It;cases neg<;>simp<;>omega
theorem mC (z:Int) (v:Value) (w:World) (h:Jj v w z):Calls Tryz.prog 112 #[v] w λe w'=>e= .returned (.int .i64 z.sign)/\Below w.heap.size w w':=by
 obtain⟨ng,mv,n,rfl,hn,hz⟩:=h
 have HZ:=Lib.hid hz
 obtain⟨A,c,rfl⟩:=hn.1.slice
 clear hn hz
 have hbw:Below w.heap.size w (w.alloc (.cells #[.bool ng,.slice A (Bo n).length c] 126)):=(Below.refl _ _).alloc (Nat.le_refl _) _
 have HBW:=Lib.hid hbw
 clear hbw
 by_cases h0:n=0
 ·
  have hl:(((Bo n).length:Int)==0)=true:=by rw[h0,Ea];rfl
  have HS:Hid (z.sign=0):=by unfold Hid;rw[<-HZ.out,h0];cases ng<;>rfl
  clear h0
  go_enter func112,ntmps112
  go_wp2_with fail
  go_ret
  exact⟨Zb HS.out.symm,HBW.out⟩
 ·
  have hl:(((Bo n).length:Int)==0)=false:=by
   have:=List.length_pos_iff.2 λe=>h0 (Jd.1 e)
   rw[beq_eq_false_iff_ne];omega
  have hnp:0<n:=by omega
  cases ng
  ·
   have HS:Hid (z.sign=1):=by
    unfold Hid;rw[<-HZ.out];unfold It;exact Int.sign_eq_one_of_pos (by simp;omega)
   clear h0
   go_enter func112,ntmps112
   go_wp2_with fail
   go_ret
   exact⟨Zb HS.out.symm,HBW.out⟩
  ·
   have HS:Hid (z.sign= -1):=by
    unfold Hid;rw[<-HZ.out];unfold It;exact Int.sign_eq_neg_one_of_neg (by simp;omega)
   clear h0
   go_enter func112,ntmps112
   go_wp2_with fail
   go_ret
   exact⟨Zb HS.out.symm,HBW.out⟩
theorem Oo (z:Int) (v:Value) (w:World) (h:Jj v w z) (hl:(Bo z.natAbs).length<=40000):Calls Tryz.prog 89 #[v] w (qC w z):=by
 obtain⟨ng,mv,n,rfl,hn,hz⟩:=h
 have HLN:=Lib.hid (Px hz hl)
 have hza:z.natAbs=n:=by rw[<-hz,Zc]
 have hneg:decide (z<0)=(ng&&decide (0<n)):=by rw[<-hz,AbA]
 have HN:=Lib.hid hn
 obtain⟨A,c,rfl⟩:=hn.1.slice
 have HWZ:Hid (Ai z= .agg #[.bool (ng&&decide (0<n)),.string (Cw n)]):=by unfold Hid Ai;rw[hneg,hza]
 have HWR:Hid (cG z=if bitLen n<=65536 then .tuple #[Ai z,.int .i64 0] else .tuple #[Ai 0,.int .i64 7]):=by unfold Hid cG;rw[hza]
 clear hn hz hl hza hneg
 obtain⟨W,hW⟩:∃W,W=(w.alloc (.cells #[.bool ng,.slice A (Bo n).length c] 126)).alloc (.cells #[.bool false,.string ⟨#[]⟩] 96):=⟨_,rfl⟩
 have h2:=Nq w (.cells #[.bool ng,.slice A (Bo n).length c] 126) (.cells #[.bool false,.string ⟨#[]⟩] 96)
 rw[<-hW] at h2
 have hsW:W.heap.size=w.heap.size+2:=by rw[hW];simp
 have HB:Hid (Below w.heap.size w W):=by unfold Hid;rw[hW];exact((Below.refl _ _).alloc (Nat.le_refl _) _).alloc (by simp) _
 have HNW:Hid (Cg W 0 W.heap.size (.slice A (Bo n).length c) n):=HN.out.up (Nat.le_refl _) HB.out
 have CW:Hid (∀wa,Below W.heap.size W wa->wa.heap[w.heap.size]?=some (.cells #[.bool ng,.slice A (Bo n).length c] 126 (0,0))/\wa.heap[w.heap.size+1]?=some (.cells #[.bool false,.string ⟨#[]⟩] 96 (0,0))):=λwa h=>by
  rw[h.block _ (by omega),h.block _ (by omega)]
  exact h2
 obtain⟨a0,a1⟩:=Cb h2.1
 obtain⟨c0,c1⟩:=Cb h2.2
 have f0:=Ex h2.2 0
 have f1:=Ex h2.2 1
 have HSZ:=Lib.hid (bR n (.slice A (Bo n).length c) 0 W.heap.size W HNW.out (by have:=HLN.out;omega))
 clear h2
 obtain⟨B,hB⟩:∃B,B=bitLen n:=⟨_,rfl⟩
 rw[<-hB] at HSZ HWR
 have HBL:=Lib.hid hB
 clear hB
 go_enter func89,ntmps89
 go_upto_region 1 with fail
 rw[<-hW]
 clear hW
 go_wp2_with fail
 refine HSZ.out.mono ?_
 rintro e w' ⟨rfl,rfl⟩
 by_cases hb:B<=65536
 ·
  have hbi:¬(65536:Int)<(B:Int):=by omega
  obtain⟨L,hL⟩:∃L,L=(be n).length:=⟨_,rfl⟩
  have hLl:L<=8192:=by have:=Sn n;rw[<-hL,<-HBL.out] at this;omega
  have HST:Hid (∀wa,Below W.heap.size W wa->Calls Tryz.prog 107 #[.slice A (Bo n).length c] wa λe w'=>∃v,e= .returned v/\Below W.heap.size W w'/\Below wa.heap.size wa w'/\is (.string (Cw n)) v w'):=λwa h=>by
   refine(vK n L _ 0 W.heap.size wa (HNW.out.below h) h.size hL (by omega)).mono ?_
   rintro e w' ⟨rfl,hb⟩
   exact⟨_,rfl,h.trans (hb.mono h.size),hb,rfl⟩
  have HWO:Hid (cG z= .tuple #[.agg #[.bool (ng&&decide (0<n)),.string (Cw n)],.int .i64 0]):=by rw[HWR.out,if_pos hb,HWZ.out];exact rfl
  obtain⟨pb,hpb⟩:∃pb,pb=decide (0<n):=⟨_,rfl⟩
  have hgt:decide ((0:Int)<((Bo n).length:Int))=pb:=by
   rw[hpb]
   by_cases h0:n=0
   · subst h0;rw[Ea];rfl
   ·
    have:=List.length_pos_iff.2 λe=>h0 (Jd.1 e)
    simp;omega
  rw[<-hpb] at HWO
  have HGT:=Lib.hid hgt
  obtain⟨s,hs⟩:∃s,s=Cw n:=⟨_,rfl⟩
  rw[<-hs] at HST HWO
  clear hL hLl hpb hgt hs a0 a1 c0 c1 f0 f1 hb HWR HWZ
  have hgt':=HGT.out
  obtain⟨ln,hln⟩:∃ln,ln=(Bo n).length:=⟨_,rfl⟩
  rw[<-hln] at hgt' HST CW ⊢
  clear hln
  cases ng with
  |false=>
   go_wp2_with fail
   refine Tq 12 21 (λw'=>Below W.heap.size W w') [is (.pointer (some ⟨w.heap.size,0,none⟩)),is (.bool false),is (.bool false),is undef,is undef,is undef,is undef,is (.bool false),is (.pointer (some ⟨w.heap.size,1,none⟩)),is (.slice A ln c),is (.string s),is (.agg #[.bool false,.string s])] (by kernel_rfl) (by kernel_rfl) rfl ?hst ?h0 ?hop ?htail
   case hst=>
    simp only[List.mem_cons,List.mem_nil_iff,or_false,forall_eq_or_imp,forall_eq]
    exact⟨Aj _,Aj _,Aj _,Aj _,Aj _,Aj _,Aj _,Aj _,Aj _,Aj _,Aj _,Aj _⟩
   case h0=>exact(Below.refl _ _).drew
   case hop=>
    refine⟨?_,?_,?_,?_,?_,?_,?_,?_,?_,?_,?_,?_,trivial⟩
    ·
     refine Gi rfl ?_
     exact Di 126 (.tmp 1) 0 (.pointer (some ⟨w.heap.size,0,none⟩)) (.pointer (some ⟨w.heap.size,0,none⟩)) rfl (by kernel_rfl) (λw=>by kernel_rfl) rfl
    ·
     refine Gi rfl ?_
     exact Cf 4 (.tmp 9) (.pointer (some ⟨w.heap.size,0,none⟩)) (.bool false) rfl (by kernel_rfl) (λwa hC=>Bz wa (by kernel_rfl) ((Cb (CW.out wa hC).1).1)) rfl
    ·
     refine Gi rfl ?_
     exact Dw (.tmp 10) (is (.bool false)) rfl (by kernel_rfl) (λ_ _ _ h=>h)
    · exact Vp (b:=false) rfl (by kernel_rfl) (by decide) (by kernel_rfl)
    · exact Vp (b:=false) rfl (by kernel_rfl) (by decide) (by kernel_rfl)
    · exact Vp (b:=false) rfl (by kernel_rfl) (by decide) (by kernel_rfl)
    · exact Vp (b:=false) rfl (by kernel_rfl) (by decide) (by kernel_rfl)
    ·
     refine Gi rfl ?_
     refine He λa wa hC hpre=>?_
     have h1:is (.bool false) (a.eval (.tmp 11)) wa:=hpre (.tmp 11) (by simp[Op.operands])
     have h2:is undef (a.eval (.tmp 15)) wa:=hpre (.tmp 15) (by simp[Op.operands])
     have e1:a.tmps[11]?.getD undef= .bool false:=by simpa [Act.eval,is] using h1
     have e2:a.tmps[15]?.getD undef=undef:=by simpa [Act.eval,is] using h2
     refine⟨.bool false,?_,rfl⟩
     clear h1 h2
     go_simp
    ·
     refine Gi rfl ?_
     exact Di 126 (.tmp 1) 1 (.pointer (some ⟨w.heap.size,0,none⟩)) (.pointer (some ⟨w.heap.size,1,none⟩)) rfl (by kernel_rfl) (λw=>by kernel_rfl) rfl
    ·
     refine Gi rfl ?_
     exact Cf 124 (.tmp 17) (.pointer (some ⟨w.heap.size,1,none⟩)) (.slice A ln c) rfl (by kernel_rfl) (λwa hC=>Bz wa (by kernel_rfl) ((Cb (CW.out wa hC).1).2)) rfl
    ·
     refine Gi rfl ?_
     exact Dc 107 [.tmp 18] _ [.slice A ln c] rfl (λ_ _=>by kernel_rfl) ⟨by kernel_rfl,trivial⟩ HST.out
    ·
     refine Gi rfl ?_
     exact Vo 16 19 (.bool false) (.string s) (.agg #[.bool false,.string s]) rfl (by kernel_rfl) (by kernel_rfl) (λa wa _ e1 e2=>by go_simp) rfl
   case htail=>
   intro τ w2 hC hR
   have r11:τ 11= .agg #[.bool false,.string s]:=hR 11 (by decide)
   simp only[Ch,List.getElem?_toArray,List.getElem?_cons_succ,List.getElem?_cons_zero,Option.bind_some,Act.put,List.setIfInBounds_toArray,List.set_cons_succ,List.set_cons_zero,List.drop_succ_cons,List.drop_zero,r11]
   clear hR r11
   have h1:=(CW.out w2 hC).2
   have HB2:Hid (Below w.heap.size w w2):=HB.out.trans (hC.mono HB.out.size)
   obtain⟨c0,c1⟩:=Cb h1
   have f0:=Ex h1 0
   have f1:=Ex h1 1
   clear hC h1
   go_wp2_with fail
   obtain⟨w3,hw3⟩:∃w3,w3=(w2.setCell ⟨w.heap.size+1,0,none⟩ (.bool false)).setCell ⟨w.heap.size+1,1,none⟩ (.string s):=⟨_,rfl⟩
   rw[<-hw3]
   obtain⟨k0,k1⟩:w3.cell? ⟨w.heap.size+1,0,none⟩=some (.bool false)/\w3.cell? ⟨w.heap.size+1,1,none⟩=some (.string s):=by
    rw[hw3];exact Fu c0 c1
   refine bodyPost_ret (v:= .tuple #[.agg #[.bool false,.string s],.int .i64 0]) (by simp[results,results89,go_sem,k0,k1]) rfl ?_
   refine⟨by rw[HWO.out];rfl,?_⟩
   rw[hw3]
   exact Below.store2 HB2.out (by omega) _ _
  |true=>
   have HGT2:Hid (decide (0<ln)=pb):=by unfold Hid;rw[<-hgt'];simp
   go_wp2_with fail
   refine Tq 12 21 (λw'=>Below W.heap.size W w') [is (.pointer (some ⟨w.heap.size,0,none⟩)),is (.bool true),is (.bool true),is (.pointer (some ⟨w.heap.size,1,none⟩)),is (.slice A ln c),is (.int .i64 (ln:Int)),is (.bool pb),is (.bool pb),is (.pointer (some ⟨w.heap.size,1,none⟩)),is (.slice A ln c),is (.string s),is (.agg #[.bool pb,.string s])] (by kernel_rfl) (by kernel_rfl) rfl ?hst ?h0 ?hop ?htail
   case hst=>
    simp only[List.mem_cons,List.mem_nil_iff,or_false,forall_eq_or_imp,forall_eq]
    exact⟨Aj _,Aj _,Aj _,Aj _,Aj _,Aj _,Aj _,Aj _,Aj _,Aj _,Aj _,Aj _⟩
   case h0=>exact(Below.refl _ _).drew
   case hop=>
    refine⟨?_,?_,?_,?_,?_,?_,?_,?_,?_,?_,?_,?_,trivial⟩
    ·
     refine Gi rfl ?_
     exact Di 126 (.tmp 1) 0 (.pointer (some ⟨w.heap.size,0,none⟩)) (.pointer (some ⟨w.heap.size,0,none⟩)) rfl (by kernel_rfl) (λw=>by kernel_rfl) rfl
    ·
     refine Gi rfl ?_
     exact Cf 4 (.tmp 9) (.pointer (some ⟨w.heap.size,0,none⟩)) (.bool true) rfl (by kernel_rfl) (λwa hC=>Bz wa (by kernel_rfl) ((Cb (CW.out wa hC).1).1)) rfl
    ·
     refine Gi rfl ?_
     exact Dw (.tmp 10) (is (.bool true)) rfl (by kernel_rfl) (λ_ _ _ h=>h)
    ·
     refine Yx rfl (by kernel_rfl) ?_
     exact Di 126 (.tmp 1) 1 (.pointer (some ⟨w.heap.size,0,none⟩)) (.pointer (some ⟨w.heap.size,1,none⟩)) rfl (by kernel_rfl) (λw=>by kernel_rfl) rfl
    ·
     refine Yx rfl (by kernel_rfl) ?_
     exact Cf 124 (.tmp 12) (.pointer (some ⟨w.heap.size,1,none⟩)) (.slice A ln c) rfl (by kernel_rfl) (λwa hC=>Bz wa (by kernel_rfl) ((Cb (CW.out wa hC).1).2)) rfl
    ·
     refine Yx rfl (by kernel_rfl) ?_
     exact Vn 13 (.slice A ln c) (.int .i64 (ln:Int)) rfl (by kernel_rfl) (λa wa _ e1=>by go_simp) rfl
    ·
     refine Yx rfl (by kernel_rfl) ?_
     exact aX 14 (.int .i64 0) (.int .i64 (ln:Int)) (.bool pb) rfl (by kernel_rfl) (λa wa _ e1=>by go_simp;exact HGT2.out) rfl
    ·
     refine Gi rfl ?_
     refine He λa wa hC hpre=>?_
     have h1:is (.bool true) (a.eval (.tmp 11)) wa:=hpre (.tmp 11) (by simp[Op.operands])
     have h2:is (.bool pb) (a.eval (.tmp 15)) wa:=hpre (.tmp 15) (by simp[Op.operands])
     have e1:a.tmps[11]?.getD undef= .bool true:=by simpa [Act.eval,is] using h1
     have e2:a.tmps[15]?.getD undef= .bool pb:=by simpa [Act.eval,is] using h2
     refine⟨.bool pb,?_,rfl⟩
     clear h1 h2
     go_simp
    ·
     refine Gi rfl ?_
     exact Di 126 (.tmp 1) 1 (.pointer (some ⟨w.heap.size,0,none⟩)) (.pointer (some ⟨w.heap.size,1,none⟩)) rfl (by kernel_rfl) (λw=>by kernel_rfl) rfl
    ·
     refine Gi rfl ?_
     exact Cf 124 (.tmp 17) (.pointer (some ⟨w.heap.size,1,none⟩)) (.slice A ln c) rfl (by kernel_rfl) (λwa hC=>Bz wa (by kernel_rfl) ((Cb (CW.out wa hC).1).2)) rfl
    ·
     refine Gi rfl ?_
     exact Dc 107 [.tmp 18] _ [.slice A ln c] rfl (λ_ _=>by kernel_rfl) ⟨by kernel_rfl,trivial⟩ HST.out
    ·
     refine Gi rfl ?_
     exact Vo 16 19 (.bool pb) (.string s) (.agg #[.bool pb,.string s]) rfl (by kernel_rfl) (by kernel_rfl) (λa wa _ e1 e2=>by go_simp) rfl
   case htail=>
   intro τ w2 hC hR
   have r11:τ 11= .agg #[.bool pb,.string s]:=hR 11 (by decide)
   simp only[Ch,List.getElem?_toArray,List.getElem?_cons_succ,List.getElem?_cons_zero,Option.bind_some,Act.put,List.setIfInBounds_toArray,List.set_cons_succ,List.set_cons_zero,List.drop_succ_cons,List.drop_zero,r11]
   clear hR r11
   have h1:=(CW.out w2 hC).2
   have HB2:Hid (Below w.heap.size w w2):=HB.out.trans (hC.mono HB.out.size)
   obtain⟨c0,c1⟩:=Cb h1
   have f0:=Ex h1 0
   have f1:=Ex h1 1
   clear hC h1
   go_wp2_with fail
   obtain⟨w3,hw3⟩:∃w3,w3=(w2.setCell ⟨w.heap.size+1,0,none⟩ (.bool pb)).setCell ⟨w.heap.size+1,1,none⟩ (.string s):=⟨_,rfl⟩
   rw[<-hw3]
   obtain⟨k0,k1⟩:w3.cell? ⟨w.heap.size+1,0,none⟩=some (.bool pb)/\w3.cell? ⟨w.heap.size+1,1,none⟩=some (.string s):=by
    rw[hw3];exact Fu c0 c1
   refine bodyPost_ret (v:= .tuple #[.agg #[.bool pb,.string s],.int .i64 0]) (by simp[results,results89,go_sem,k0,k1]) rfl ?_
   refine⟨by rw[HWO.out];rfl,?_⟩
   rw[hw3]
   exact Below.store2 HB2.out (by omega) _ _
 ·
  have hbi:(65536:Int)<(B:Int):=by omega
  have HWO:Hid (cG z= .tuple #[.agg #[.bool false,.string ⟨#[]⟩],.int .i64 7]):=by rw[HWR.out,if_neg hb];unfold Ai;rw[show (0:Int).natAbs=0 from rfl,jZ];exact rfl
  clear hb a0 a1 CW HWR HWZ
  go_wp2_with fail
  obtain⟨w3,hw3⟩:∃w3,w3=(W.setCell ⟨w.heap.size+1,0,none⟩ (.bool false)).setCell ⟨w.heap.size+1,1,none⟩ (.string ⟨#[]⟩):=⟨_,rfl⟩
  rw[<-hw3]
  obtain⟨k0,k1⟩:w3.cell? ⟨w.heap.size+1,0,none⟩=some (.bool false)/\w3.cell? ⟨w.heap.size+1,1,none⟩=some (.string ⟨#[]⟩):=by
   rw[hw3];exact Fu c0 c1
  refine bodyPost_ret (v:= .tuple #[.agg #[.bool false,.string ⟨#[]⟩],.int .i64 7]) (by simp[results,results89,go_sem,k0,k1]) rfl ?_
  refine⟨by rw[HWO.out],?_⟩
  rw[hw3]
  exact Below.store2 HB.out (by omega) _ _
theorem mS {a b q r:Int} (hb:0<b) (h:r+b*q=a) (h0:0<=r) (h1:r<b):a/b=q/\a%b=r:=(Int.ediv_emod_unique hb).2 ⟨h,h0,h1⟩
theorem mR {a b q r:Int} {m:Nat} (hm:b=m\/b= -(m:Int)) (hm0:0<m) (h:r+b*q=a) (h0:0<=r) (h1:r<m):a/b=q/\a%b=r:=by
 rcases hm with rfl|rfl
 exact mS (by omega) h h0 h1
 have h2:r+(m:Int)*(-q)=a:=by rw[<-h,Int.mul_neg,Int.neg_mul]
 obtain⟨e1,e2⟩:=mS (by omega) h2 h0 h1
 exact⟨by rw[Int.ediv_neg,e1];simp,by rw[Int.emod_neg,e2]⟩
theorem rY {ng mg:Bool} {n m:Nat} (hm:0<m) (h:ng=false\/n%m=0):It ng n/It mg m=It (ng != mg) (n/m)/\It ng n%It mg m=It false (n%m):=by
 have e:=Nat.mod_add_div n m
 have hl:=Nat.mod_lt n hm
 refine mR (m:=m) (by unfold It;cases mg<;>simp) hm ?_ (by simp[It];omega) (by simp[It];omega)
 have e2:((n%m:Nat):Int)+(m:Int)*((n/m:Nat):Int)=(n:Int):=by rw[<-Int.natCast_mul,<-Int.natCast_add,e]
 generalize n/m=q at*
 generalize n%m=r at*
 rcases h with rfl|h0
 unfold It;cases mg<;>simp[Int.neg_mul,Int.mul_neg] at* <;>omega
 rw[h0] at e2 ⊢
 unfold It;cases ng<;>cases mg<;>simp[Int.neg_mul,Int.mul_neg] at* <;>omega
theorem vE {mg:Bool} {n m:Nat} (hm:0<m):It false n/It mg m=It mg (n/m)/\It false n%It mg m=It false (n%m):=by
 have:=rY (ng:=false) (mg:=mg) (n:=n) hm (.inl rfl)
 cases mg<;>exact this
theorem vF {mg:Bool} {n m:Nat} (hm:0<m) (h:n%m=0):It true n/It mg m=It (!mg) (n/m)/\It true n%It mg m=It false (n%m):=by
 have:=rY (ng:=true) (mg:=mg) (n:=n) hm (.inr h)
 cases mg<;>exact this
theorem oX {mg:Bool} {n m:Nat} (hm:0<m) (h:0<n%m):It true n/It mg m=It (!mg) (n/m+1)/\It true n%It mg m=It false (m-n%m):=by
 have e:=Nat.mod_add_div n m
 have hl:=Nat.mod_lt n hm
 refine mR (m:=m) (by unfold It;cases mg<;>simp) hm ?_ (by simp[It]) (by simp[It];omega)
 have e2:((n%m:Nat):Int)+(m:Int)*((n/m:Nat):Int)=(n:Int):=by rw[<-Int.natCast_mul,<-Int.natCast_add,e]
 generalize n/m=q at*
 generalize n%m=r at*
 have e3:((m-r:Nat):Int)=(m:Int)-(r:Int):=by omega
 unfold It
 cases mg<;>simp[e3,Int.mul_add,Int.neg_mul,Int.mul_neg] at* <;>omega
def jT (w:World) (x y:Int) (e:Ending) (w':World):Prop:=∃v1 v2,e= .returned (.tuple #[v1,v2])/\Jj v1 w' (x/y)/\Jj v2 w' (x%y)/\Below w.heap.size w w'
theorem kO (w:World) (o o' o'' o3:Obj):((((w.alloc o).alloc o').alloc o'').alloc o3).heap[w.heap.size]?=some o/\((((w.alloc o).alloc o').alloc o'').alloc o3).heap[w.heap.size+1]?=some o'/\((((w.alloc o).alloc o').alloc o'').alloc o3).heap[w.heap.size+2]?=some o''/\((((w.alloc o).alloc o').alloc o'').alloc o3).heap[w.heap.size+3]?=some o3:=by
 have h:=Im w o o' o''
 refine⟨(Below.heap_alloc _ _ _ (by simp only[World.size_alloc];omega)).trans h.1,(Below.heap_alloc _ _ _ (by simp only[World.size_alloc];omega)).trans h.2.1,(Below.heap_alloc _ _ _ (by simp only[World.size_alloc];omega)).trans h.2.2,?_⟩
 have:=heap_alloc_new (((w.alloc o).alloc o').alloc o'') o3
 rwa [World.size_alloc,World.size_alloc,World.size_alloc] at this
theorem aW {w w2:World} {b1 b2 n1 c1 n2 c2:Nat} {A1 A2:Option Addr} {g1 g2:Bool} {x y:Int} {x0 x1 y0 y1:Value} {t t':TypeId} {fz fz':Nat×Nat} (hM:Cg w2 0 w2.heap.size (.slice A1 (Bo n1).length c1) n1) (hM':Cg w2 0 w2.heap.size (.slice A2 (Bo n2).length c2) n2)
  (hb:w2.heap[b1]?=some (.cells #[x0,x1] t fz)) (hb':w2.heap[b2]?=some (.cells #[y0,y1] t' fz')) (hne:b1≠b2) (h0:Nc x0) (h1:Nc x1) (h2:Nc y0) (h3:Nc y1)
  (hB:Below w.heap.size w w2) (hwb:w.heap.size<=b1) (hwb':w.heap.size<=b2) (hz:It g1 n1=x/y) (hz':It g2 n2=x%y) (u0 u1 u2 u3:Value):
  jT w x y (.returned (.tuple #[.agg #[.bool g1,.slice A1 (Bo n1).length c1],.agg #[.bool g2,.slice A2 (Bo n2).length c2]])) ((((w2.setCell ⟨b1,0,none⟩ u0).setCell ⟨b1,1,none⟩ u1).setCell ⟨b2,0,none⟩ u2).setCell ⟨b2,1,none⟩ u3):=by
 have hb2:((w2.setCell ⟨b1,0,none⟩ u0).setCell ⟨b1,1,none⟩ u1).heap[b2]?=some (.cells #[y0,y1] t' fz'):=by
  rw[Below.heap_setCell _ _ _ _ (Ne.symm hne),Below.heap_setCell _ _ _ _ (Ne.symm hne)];exact hb'
 refine⟨_,_,rfl,⟨g1,_,n1,rfl,?_,hz⟩,⟨g2,_,n2,rfl,?_,hz'⟩,Below.store2 (Below.store2 hB hwb _ _) hwb' _ _⟩
 rw[Gq,Gq]
 exact(hM.store2 hb h0 h1 _ _).store2 hb2 h2 h3 _ _
 rw[Gq,Gq]
 exact(hM'.store2 hb h0 h1 _ _).store2 hb2 h2 h3 _ _
theorem Wa {w:World} {b b':Nat} {u u' y y' v v' z z':Value} (hne:b≠b') (h0:w.cell? ⟨b,0,none⟩=some u) (h1:w.cell? ⟨b,1,none⟩=some u') (h2:w.cell? ⟨b',0,none⟩=some y) (h3:w.cell? ⟨b',1,none⟩=some y'):
  ((((w.setCell ⟨b,0,none⟩ v).setCell ⟨b,1,none⟩ v').setCell ⟨b',0,none⟩ z).setCell ⟨b',1,none⟩ z').cell? ⟨b,0,none⟩=some v/\((((w.setCell ⟨b,0,none⟩ v).setCell ⟨b,1,none⟩ v').setCell ⟨b',0,none⟩ z).setCell ⟨b',1,none⟩ z').cell? ⟨b,1,none⟩=some v'/\
  ((((w.setCell ⟨b,0,none⟩ v).setCell ⟨b,1,none⟩ v').setCell ⟨b',0,none⟩ z).setCell ⟨b',1,none⟩ z').cell? ⟨b',0,none⟩=some z/\((((w.setCell ⟨b,0,none⟩ v).setCell ⟨b,1,none⟩ v').setCell ⟨b',0,none⟩ z).setCell ⟨b',1,none⟩ z').cell? ⟨b',1,none⟩=some z':=by
 have s:=Fu (v:=v) (v':=v') h0 h1
 have o:∀i (x y:Value),((w.setCell ⟨b,0,none⟩ x).setCell ⟨b,1,none⟩ y).cell? ⟨b',i,none⟩=w.cell? ⟨b',i,none⟩:=λi x y=>by
  rw[World.cell?_setCell_other _ _ _ _ (by simp[hne]),World.cell?_setCell_other _ _ _ _ (by simp[hne])]
 have t:=Fu (v:=z) (v':=z') ((o 0 v v').trans h2) ((o 1 v v').trans h3)
 refine⟨?_,?_,t.1,t.2⟩
 rw[World.cell?_setCell_other _ _ _ _ (by simp[Ne.symm hne]),World.cell?_setCell_other _ _ _ _ (by simp[Ne.symm hne])];exact s.1
 rw[World.cell?_setCell_other _ _ _ _ (by simp[Ne.symm hne]),World.cell?_setCell_other _ _ _ _ (by simp[Ne.symm hne])];exact s.2
theorem rG:Bo 1=[1]:=by rw[Nl (by decide),show 1%Bw=1 by decide,show 1/Bw=0 by decide,Ea]
theorem Aaf {lo:Nat} {e:TypeId} {v:Value} {w:World} (h:jS lo e [.int .u64 1] v w):Cg w 0 w.heap.size v 1:=by
 have hs:=h.sees
 obtain⟨b,_,rfl,_⟩:=h
 refine⟨?_,?_⟩
 rw[rG]
 exact Cz.more hs (Nat.zero_le _) (Nat.le_refl _)
 show 1<=1
 exact Nat.le_refl _
theorem mT (x y:Int) (vx vy:Value) (w:World) (hx:Jj vx w x) (hy:Jj vy w y) (hl:(Bo x.natAbs).length<=40000) (hl':(Bo y.natAbs).length<=40000) (hy0:y≠0):Calls Tryz.prog 88 #[vx,vy] w (jT w x y):=by
 obtain⟨ng,mv,n,rfl,hn,hz⟩:=hx
 obtain⟨mg,mv',m,rfl,hm,hz'⟩:=hy
 have hm0:0<m:=by
  rcases Nat.eq_zero_or_pos m with h|h
  ·
   rw[h] at hz'
   exact absurd (by rw[<-hz'];cases mg<;>rfl) hy0
  · exact h
 have hln:=Px hz hl
 have hlm:=Px hz' hl'
 have HZ:=Lib.hid hz
 have HZ':=Lib.hid hz'
 have HN:=Lib.hid hn
 have HM:=Lib.hid hm
 have HM0:=Lib.hid hm0
 obtain⟨A,c,rfl⟩:=hn.1.slice
 obtain⟨A',c',rfl⟩:=hm.1.slice
 have HLN:=Lib.hid hln
 have HLM:=Lib.hid hlm
 clear hn hm hz hz' hl hl' hln hlm hy0 hm0
 obtain⟨W,hW⟩:∃W,W=(((w.alloc (.cells #[.bool ng,.slice A (Bo n).length c] 126)).alloc (.cells #[.bool mg,.slice A' (Bo m).length c'] 126)).alloc (.cells #[.bool false,.slice none 0 0] 126)).alloc (.cells #[.bool false,.slice none 0 0] 126):=⟨_,rfl⟩
 have h3:=kO w (.cells #[.bool ng,.slice A (Bo n).length c] 126) (.cells #[.bool mg,.slice A' (Bo m).length c'] 126) (.cells #[.bool false,.slice none 0 0] 126) (.cells #[.bool false,.slice none 0 0] 126)
 rw[<-hW] at h3
 have hsW:W.heap.size=w.heap.size+4:=by rw[hW];simp
 have HB:Hid (Below w.heap.size w W):=by unfold Hid;rw[hW];exact((((Below.refl _ _).alloc (Nat.le_refl _) _).alloc (by simp) _).alloc (by simp;omega) _).alloc (by simp;omega) _
 have HNW:Hid (Cg W 0 W.heap.size (.slice A (Bo n).length c) n):=HN.out.up (Nat.le_refl _) HB.out
 have HMW:Hid (Cg W 0 W.heap.size (.slice A' (Bo m).length c') m):=HM.out.up (Nat.le_refl _) HB.out
 have CW:Hid (∀wa,Below W.heap.size W wa->wa.heap[w.heap.size]?=some (.cells #[.bool ng,.slice A (Bo n).length c] 126 (0,0))/\wa.heap[w.heap.size+1]?=some (.cells #[.bool mg,.slice A' (Bo m).length c'] 126 (0,0))/\wa.heap[w.heap.size+2]?=some (.cells #[.bool false,.slice none 0 0] 126 (0,0))/\wa.heap[w.heap.size+3]?=some (.cells #[.bool false,.slice none 0 0] 126 (0,0))):=λwa h=>by
  rw[h.block _ (by omega),h.block _ (by omega),h.block _ (by omega),h.block _ (by omega)]
  exact h3
 obtain⟨a0,a1⟩:=Cb h3.1
 obtain⟨b0,b1⟩:=Cb h3.2.1
 clear h3
 have HDV:=Lib.hid (qP n m _ _ 0 W.heap.size 0 W.heap.size W HNW.out HMW.out (Nat.le_refl _) (Nat.le_refl _) (by have:=HLN.out;omega) (by have:=HLM.out;omega) HM0.out)
 go_enter func88,ntmps88
 go_upto_region 1 with fail
 rw[<-hW]
 clear hW
 go_wp2_with fail
 refine HDV.out.mono ?_
 rintro e w1 ⟨q,r,rfl,hq,hr,hb1⟩
 obtain⟨Aq,cq,rfl⟩:=hq.1.slice
 obtain⟨Ar,cr,rfl⟩:=hr.1.slice
 have HQ:=Lib.hid hq
 have HR:=Lib.hid hr
 obtain⟨d0,d1,d2,d3⟩:=CW.out w1 hb1
 obtain⟨a0',a1'⟩:=Cb d0
 obtain⟨b0',b1'⟩:=Cb d1
 have HB1:Hid (Below w.heap.size w w1):=HB.out.trans (hb1.mono HB.out.size)
 have hs1:w.heap.size+4<=w1.heap.size:=by have:=hb1.size;omega
 have CW1:Hid (∀wa,Below w1.heap.size w1 wa->wa.heap[w.heap.size]?=some (.cells #[.bool ng,.slice A (Bo n).length c] 126 (0,0))/\wa.heap[w.heap.size+1]?=some (.cells #[.bool mg,.slice A' (Bo m).length c'] 126 (0,0))/\wa.heap[w.heap.size+2]?=some (.cells #[.bool false,.slice none 0 0] 126 (0,0))/\wa.heap[w.heap.size+3]?=some (.cells #[.bool false,.slice none 0 0] 126 (0,0))):=λwa h=>
  CW.out wa (hb1.trans (h.mono hb1.size))
 have HMW1:Hid (Cg w1 0 w1.heap.size (.slice A' (Bo m).length c') m):=HMW.out.up (Nat.le_refl _) hb1
 have HQL:Hid ((Bo (n/m)).length<=40000):=Nat.le_trans (Lk (Nat.div_le_self _ _)) HLN.out
 have HRL:Hid (n%m<m):=Nat.mod_lt _ HM0.out
 clear hq hr a0 a1 b0 b1 HNW HMW HDV CW HB d0 d1 d2 d3 hb1 hsW
 obtain⟨Q,hQ⟩:∃Q,Q=n/m:=⟨_,rfl⟩
 obtain⟨R,hR⟩:∃R,R=n%m:=⟨_,rfl⟩
 rw[<-hQ] at HQ HQL ⊢
 rw[<-hR] at HR HRL ⊢
 have HQE:=Lib.hid hQ
 have HRE:=Lib.hid hR
 clear hQ hR
 by_cases hup:ng=true/\0<R
 ·
  obtain⟨rfl,hR0⟩:=hup
  have hRl:decide ((0:Int)<((Bo R).length:Int))=true:=by
   have:=List.length_pos_iff.2 λe=>Nat.ne_of_gt hR0 (Jd.1 e)
   simp;omega
  have hRl2:0<(Bo R).length:=by simpa using hRl
  have hRl3:(0:Int)<((Bo R).length:Int):=by omega
  have HR0:=Lib.hid hR0
  clear hR0
  have HAD:Hid (∀wa u v,Below w1.heap.size w1 wa->is (.slice Aq (Bo Q).length cq) u wa->jS w1.heap.size 128 [.int .u64 1] v wa->Calls Tryz.prog 104 #[u,v] wa λe w'=>∃v',e= .returned v'/\Below w1.heap.size w1 w'/\Below wa.heap.size wa w'/\Kp (Q+1) v' w'):=λwa u v hC hu hv=>by
   have hu':u= .slice Aq (Bo Q).length cq:=hu
   subst hu'
   refine(qD Q 1 _ _ 0 wa.heap.size 0 wa.heap.size wa (HQ.out.up (Nat.le_refl _) hC) (Aaf hv) (Nat.le_refl _) (Nat.le_refl _) (by have:=HQL.out;omega) (by rw[rG];decide)).mono λ_ _ h=>h.word hC
  have HSB:Hid (∀wa,Below w1.heap.size w1 wa->Calls Tryz.prog 105 #[.slice A' (Bo m).length c',.slice Ar (Bo R).length cr] wa (Er wa (m-R))):=λwa hC=>
   Py m R _ _ 0 w1.heap.size 0 w1.heap.size wa (HMW1.out.below hC) (HR.out.below hC) hC.size hC.size (by have:=HLM.out;omega) (Nat.le_of_lt HRL.out)
  go_wp2_with fail
  clear a0' a1' b0' b1' hRl hRl2 hRl3
  refine Eb 7 39 (λw'=>Below w1.heap.size w1 w') [is (.slice Aq (Bo Q).length cq),jS w1.heap.size 128 [.int .u64 1],Kp (Q+1),is (.pointer (some ⟨w.heap.size+1,1,none⟩)),is (.slice A' (Bo m).length c'),is (.slice Ar (Bo R).length cr),Kp (m-R)] (by kernel_rfl) (by kernel_rfl) rfl (by decide) ?hst ?h0 ?hop ?htail
  case hst=>
   simp only[List.mem_cons,List.mem_nil_iff,or_false,forall_eq_or_imp,forall_eq]
   exact⟨Aj _,lX _ _ _,Gp _,Aj _,Aj _,Aj _,Gp _⟩
  case h0=>exact(Below.refl _ _).drew
  case hop=>
   refine⟨?_,?_,?_,?_,?_,?_,?_,trivial⟩
   · exact Dw (.tmp 6) (is (.slice Aq (Bo Q).length cq)) rfl (by kernel_rfl) (λ_ _ _ h=>h)
   · exact Ac2 128 [.int .u64 1] (λa wa _ hpre=>by go_simp) rfl
   · exact Og 104 (.tmp 23) (.tmp 24) _ (is (.slice Aq (Bo Q).length cq)) (jS w1.heap.size 128 [.int .u64 1]) rfl (λ_ _=>by kernel_rfl) (by kernel_rfl) (by kernel_rfl) HAD.out
   · exact Di 126 (.tmp 3) 1 (.pointer (some ⟨w.heap.size+1,0,none⟩)) (.pointer (some ⟨w.heap.size+1,1,none⟩)) rfl (by kernel_rfl) (λw=>by kernel_rfl) rfl
   · exact Cf 124 (.tmp 26) (.pointer (some ⟨w.heap.size+1,1,none⟩)) (.slice A' (Bo m).length c') rfl (by kernel_rfl) (λwa hC=>Bz wa (by kernel_rfl) ((Cb (CW1.out wa hC).2.1).2)) rfl
   · exact Dw (.tmp 7) (is (.slice Ar (Bo R).length cr)) rfl (by kernel_rfl) (λ_ _ _ h=>h)
   · exact Dc 105 [.tmp 27,.tmp 28] _ [.slice A' (Bo m).length c',.slice Ar (Bo R).length cr] rfl (λ_ _=>by kernel_rfl) ⟨by kernel_rfl,by kernel_rfl,trivial⟩ (λwa hC=>(HSB.out wa hC).mono λ_ _ h=>h.word hC)
  case htail=>
  intro τ w2 hC hR
  have r2:Kp (Q+1) (τ 2) w2:=hR 2 (by decide)
  have r6:Kp (m-R) (τ 6) w2:=hR 6 (by decide)
  obtain⟨v1,hv1⟩:∃mv,mv=τ 2:=⟨_,rfl⟩
  obtain⟨v2,hv2⟩:∃mv,mv=τ 6:=⟨_,rfl⟩
  rw[<-hv1] at r2
  rw[<-hv2] at r6
  simp only[Ch,List.getElem?_toArray,List.getElem?_cons_succ,List.getElem?_cons_zero,Option.bind_some,Act.put,List.setIfInBounds_toArray,List.set_cons_succ,List.set_cons_zero,List.drop_succ_cons,List.drop_zero,<-hv1,<-hv2]
  clear hR hv1 hv2
  have hsz:=oX (mg:=mg) HM0.out (n:=n) (by rw[<-HRE.out];exact HR0.out)
  rw[HZ.out,HZ'.out,<-HQE.out,<-HRE.out] at hsz
  obtain⟨k1,hk1⟩:∃k,k=Q+1:=⟨_,rfl⟩
  obtain⟨k2,hk2⟩:∃k,k=m-R:=⟨_,rfl⟩
  rw[<-hk1] at r2 hsz
  rw[<-hk2] at r6 hsz
  have HSZ:=Lib.hid hsz
  have HR2:=Lib.hid r2
  have HR6:=Lib.hid r6
  obtain⟨A1,c1,rfl⟩:=r2.1.slice
  obtain⟨A2,c2,rfl⟩:=r6.1.slice
  obtain⟨d0,d1,d2,d3⟩:=CW1.out w2 hC
  have HB2:Hid (Below w.heap.size w w2):=HB1.out.trans (hC.mono HB1.out.size)
  obtain⟨e0,e1⟩:=Cb d0
  obtain⟨e2,e3⟩:=Cb d1
  obtain⟨e4,e5⟩:=Cb d2
  obtain⟨e6,e7⟩:=Cb d3
  have f0:=Ex d2 0
  have f1:=Ex d2 1
  have f2:=Ex d3 0
  have f3:=Ex d3 1
  have HD2:=Lib.hid d2
  have HD3:=Lib.hid d3
  clear hk1 hk2 hsz r2 r6 d0 d1 d2 d3 hC
  go_wp2_with fail
  obtain⟨w3,hw3⟩:∃w3,w3=(((w2.setCell ⟨w.heap.size+1+1,0,none⟩ (.bool (!mg))).setCell ⟨w.heap.size+1+1,1,none⟩ (.slice A1 (Bo k1).length c1)).setCell ⟨w.heap.size+1+1+1,0,none⟩ (.bool false)).setCell ⟨w.heap.size+1+1+1,1,none⟩ (.slice A2 (Bo k2).length c2):=⟨_,rfl⟩
  rw[<-hw3]
  obtain⟨p0,p1,p2,p3⟩:w3.cell? ⟨w.heap.size+1+1,0,none⟩=some (.bool (!mg))/\w3.cell? ⟨w.heap.size+1+1,1,none⟩=some (.slice A1 (Bo k1).length c1)/\w3.cell? ⟨w.heap.size+1+1+1,0,none⟩=some (.bool false)/\w3.cell? ⟨w.heap.size+1+1+1,1,none⟩=some (.slice A2 (Bo k2).length c2):=by
   rw[hw3];exact Wa (by omega) e4 e5 e6 e7
  refine bodyPost_ret (v:= .tuple #[.agg #[.bool (!mg),.slice A1 (Bo k1).length c1],.agg #[.bool false,.slice A2 (Bo k2).length c2]]) (by simp[results,results88,go_sem,p0,p1,p2,p3]) rfl ?_
  rw[hw3]
  exact aW HR2.out HR6.out HD2.out HD3.out (by omega) trivial trivial trivial trivial HB2.out (by omega) (by omega) HSZ.out.1.symm HSZ.out.2.symm _ _ _ _
 cases ng with
 |true=>
  have hR0:R=0:=by
   rcases Nat.eq_zero_or_pos R with h|h
   · exact h
   · exact absurd ⟨rfl,h⟩ hup
  have hRl3:decide ((0:Int)<((Bo R).length:Int))=false:=by rw[hR0,Ea];simp
  have hRl2:decide (0<(Bo R).length)=false:=by rw[hR0,Ea];simp
  have hsz:=vF (mg:=mg) HM0.out (n:=n) (by rw[<-HRE.out];exact hR0)
  rw[HZ.out,HZ'.out,<-HQE.out,<-HRE.out] at hsz
  clear hR0 hup
  have r2:=HQ.out
  have r6:=HR.out
  obtain⟨w2,hw2⟩:∃w2,w2=w1:=⟨_,rfl⟩
  rw[<-hw2] at r2 r6 ⊢
  have hC:Below w1.heap.size w1 w2:=by rw[hw2];exact Below.refl _ _
  clear hw2 a0' a1' b0' b1'
  have HSZ:=Lib.hid hsz
  have HR2:=Lib.hid r2
  have HR6:=Lib.hid r6
  obtain⟨d0,d1,d2,d3⟩:=CW1.out w2 hC
  have HB2:Hid (Below w.heap.size w w2):=HB1.out.trans (hC.mono HB1.out.size)
  obtain⟨e0,e1⟩:=Cb d0
  obtain⟨e2,e3⟩:=Cb d1
  obtain⟨e4,e5⟩:=Cb d2
  obtain⟨e6,e7⟩:=Cb d3
  have f0:=Ex d2 0
  have f1:=Ex d2 1
  have f2:=Ex d3 0
  have f3:=Ex d3 1
  have HD2:=Lib.hid d2
  have HD3:=Lib.hid d3
  clear hsz r2 r6 d0 d1 d2 d3 hC
  go_wp2_with fail
  obtain⟨w3,hw3⟩:∃w3,w3=(((w2.setCell ⟨w.heap.size+1+1,0,none⟩ (.bool (!mg))).setCell ⟨w.heap.size+1+1,1,none⟩ (.slice Aq (Bo Q).length cq)).setCell ⟨w.heap.size+1+1+1,0,none⟩ (.bool false)).setCell ⟨w.heap.size+1+1+1,1,none⟩ (.slice Ar (Bo R).length cr):=⟨_,rfl⟩
  rw[<-hw3]
  obtain⟨p0,p1,p2,p3⟩:w3.cell? ⟨w.heap.size+1+1,0,none⟩=some (.bool (!mg))/\w3.cell? ⟨w.heap.size+1+1,1,none⟩=some (.slice Aq (Bo Q).length cq)/\w3.cell? ⟨w.heap.size+1+1+1,0,none⟩=some (.bool false)/\w3.cell? ⟨w.heap.size+1+1+1,1,none⟩=some (.slice Ar (Bo R).length cr):=by
   rw[hw3];exact Wa (by omega) e4 e5 e6 e7
  refine bodyPost_ret (v:= .tuple #[.agg #[.bool (!mg),.slice Aq (Bo Q).length cq],.agg #[.bool false,.slice Ar (Bo R).length cr]]) (by simp[results,results88,go_sem,p0,p1,p2,p3]) rfl ?_
  rw[hw3]
  exact aW HR2.out HR6.out HD2.out HD3.out (by omega) trivial trivial trivial trivial HB2.out (by omega) (by omega) HSZ.out.1.symm HSZ.out.2.symm _ _ _ _
 |false=>
  have hsz:=vE (mg:=mg) HM0.out (n:=n)
  rw[HZ.out,HZ'.out,<-HQE.out,<-HRE.out] at hsz
  clear hup
  have r2:=HQ.out
  have r6:=HR.out
  obtain⟨w2,hw2⟩:∃w2,w2=w1:=⟨_,rfl⟩
  rw[<-hw2] at r2 r6 ⊢
  have hC:Below w1.heap.size w1 w2:=by rw[hw2];exact Below.refl _ _
  clear hw2 a0' a1' b0' b1'
  have HSZ:=Lib.hid hsz
  have HR2:=Lib.hid r2
  have HR6:=Lib.hid r6
  obtain⟨d0,d1,d2,d3⟩:=CW1.out w2 hC
  have HB2:Hid (Below w.heap.size w w2):=HB1.out.trans (hC.mono HB1.out.size)
  obtain⟨e0,e1⟩:=Cb d0
  obtain⟨e2,e3⟩:=Cb d1
  obtain⟨e4,e5⟩:=Cb d2
  obtain⟨e6,e7⟩:=Cb d3
  have f0:=Ex d2 0
  have f1:=Ex d2 1
  have f2:=Ex d3 0
  have f3:=Ex d3 1
  have HD2:=Lib.hid d2
  have HD3:=Lib.hid d3
  clear hsz r2 r6 d0 d1 d2 d3 hC
  go_wp2_with fail
  obtain⟨w3,hw3⟩:∃w3,w3=(((w2.setCell ⟨w.heap.size+1+1,0,none⟩ (.bool mg)).setCell ⟨w.heap.size+1+1,1,none⟩ (.slice Aq (Bo Q).length cq)).setCell ⟨w.heap.size+1+1+1,0,none⟩ (.bool false)).setCell ⟨w.heap.size+1+1+1,1,none⟩ (.slice Ar (Bo R).length cr):=⟨_,rfl⟩
  rw[<-hw3]
  obtain⟨p0,p1,p2,p3⟩:w3.cell? ⟨w.heap.size+1+1,0,none⟩=some (.bool mg)/\w3.cell? ⟨w.heap.size+1+1,1,none⟩=some (.slice Aq (Bo Q).length cq)/\w3.cell? ⟨w.heap.size+1+1+1,0,none⟩=some (.bool false)/\w3.cell? ⟨w.heap.size+1+1+1,1,none⟩=some (.slice Ar (Bo R).length cr):=by
   rw[hw3];exact Wa (by omega) e4 e5 e6 e7
  refine bodyPost_ret (v:= .tuple #[.agg #[.bool mg,.slice Aq (Bo Q).length cq],.agg #[.bool false,.slice Ar (Bo R).length cr]]) (by simp[results,results88,go_sem,p0,p1,p2,p3]) rfl ?_
  rw[hw3]
  exact aW HR2.out HR6.out HD2.out HD3.out (by omega) trivial trivial trivial trivial HB2.out (by omega) (by omega) HSZ.out.1.symm HSZ.out.2.symm _ _ _ _
def Gh (z:Int):Prop:=bitLen z.natAbs<=65536
theorem Gh.bytes {z:Int} (h:Gh z):(be z.natAbs).length<=8192:=by unfold Gh at h;rw[Sn];omega
theorem Gh.digits {z:Int} (h:Gh z):(Bo z.natAbs).length<=1024:=by have:=h.bytes;have:=aS z.natAbs;omega
theorem xP {n:Nat} (h:n≠0) (hp:0<(be n).length):((be n)[0]).toNat≠0:=by
 have hh:=AaQ n
 rw[List.head?_eq_getElem?,List.getElem?_eq_getElem hp] at hh
 intro e
 apply hh
 have:(be n)[0]=0:=UInt8.toNat_inj.1 e
 rw[this]
theorem xO (n:Nat):(Cw n).toList=be n:=by simp[Cw]
theorem dM {n:Nat}:(Cw n).toList.isEmpty=decide (n=0):=by
 rw[xO]
 by_cases h:n=0
 subst h;rw[Nd];rfl
 have h2:(be n)≠[]:=λe=>h (nJ.1 e)
 simp[h,h2]
theorem Jq (z:Int) (w:World) (hf:Gh z):Calls Tryz.prog 66 #[Ai z] w λe w'=>e= .returned (.bool true)/\Below w.heap.size w w':=by
 have hb:=hf.bytes
 unfold Ai
 obtain⟨n,hn⟩:∃n,n=z.natAbs:=⟨_,rfl⟩
 rw[<-hn] at hb ⊢
 have hz:n=0->decide (z<0)=false:=λh=>by
  have:z=0:=by omega
  subst this;rfl
 obtain⟨ng,hng⟩:∃ng,ng=decide (z<0):=⟨_,rfl⟩
 rw[<-hng] at hz ⊢
 have he:=dM (n:=n)
 have hsz:=Ux n
 obtain⟨L,hL⟩:∃L,L=(be n).length:=⟨_,rfl⟩
 rw[<-hL] at hb hsz
 have h0:∀(h:0<(Cw n).size),n≠0->((Cw n)[0]).toNat≠0:=λh hne=>xP hne (by rw[<-Ux];exact h)
 have hp:n≠0->0<L:=λh=>by rw[hL];exact List.length_pos_iff.2 λe=>h (nJ.1 e)
 obtain⟨s,hs⟩:∃s,s=Cw n:=⟨_,rfl⟩
 rw[<-hs] at he hsz h0 ⊢
 clear hs hL hng hn hf
 have hbw:Below w.heap.size w (w.alloc (.cells #[.bool ng,.string s] 96)):=(Below.refl _ _).alloc (Nat.le_refl _) _
 have HBW:=Lib.hid hbw
 clear hbw
 by_cases hn0:n=0
 ·
  have hng:=hz hn0
  subst hng
  rw[show decide (n=0)=true by simp[hn0]] at he
  clear hz h0 hp hn0
  go_enter func66,ntmps66
  go_wp2_with fail
  go_ret
  exact⟨rfl,HBW.out⟩
 ·
  rw[show decide (n=0)=false by simp[hn0]] at he
  have hp:=hp hn0
  have hps:0<s.size:=by omega
  have hf0:=h0 hps hn0
  obtain⟨x,hx⟩:∃x,x=(s[0]'hps).toNat:=⟨_,rfl⟩
  have hxn:((s[0]'hps).toNat:Int)≠0:=by omega
  have hxb:(((s[0]'hps).toNat:Int) != 0)=true:=by simpa using hxn
  have hLi:(L:Int)<=8192:=by omega
  clear hz h0 hn0 hf0 hx hxn
  go_enter func66,ntmps66
  go_wp2_with fail
  go_ret
  exact⟨rfl,HBW.out⟩
theorem Qy (x y:Int) (w:World) (hx:Gh x) (hy:Gh y):Calls Tryz.prog 87 #[Ai x,Ai y] w λe w'=>e= .returned (.bool true)/\Below w.heap.size w w':=by
 have HX:=Lib.hid (λw=>Jq x w hx)
 have HY:=Lib.hid (λw=>Jq y w hy)
 clear hx hy
 unfold Ai at*
 obtain⟨ng,hng⟩:∃ng,ng=decide (x<0):=⟨_,rfl⟩
 obtain⟨s,hs⟩:∃s,s=Cw x.natAbs:=⟨_,rfl⟩
 obtain⟨mg,hmg⟩:∃mg,mg=decide (y<0):=⟨_,rfl⟩
 obtain⟨t,ht⟩:∃t,t=Cw y.natAbs:=⟨_,rfl⟩
 rw[<-hng,<-hs] at HX ⊢
 rw[<-hmg,<-ht] at HY ⊢
 clear hng hs hmg ht
 obtain⟨W,hW⟩:∃W,W=(w.alloc (.cells #[.bool ng,.string s] 96)).alloc (.cells #[.bool mg,.string t] 96):=⟨_,rfl⟩
 have h2:=Nq w (.cells #[.bool ng,.string s] 96) (.cells #[.bool mg,.string t] 96)
 rw[<-hW] at h2
 have hsW:W.heap.size=w.heap.size+2:=by rw[hW];simp
 have HB:Hid (Below w.heap.size w W):=by unfold Hid;rw[hW];exact((Below.refl _ _).alloc (Nat.le_refl _) _).alloc (by simp) _
 obtain⟨a0,a1⟩:=Cb h2.1
 have HH:=Lib.hid h2.2
 clear h2
 go_enter func87,ntmps87
 go_upto_region 1 with fail
 rw[<-hW]
 clear hW
 go_wp2_with fail
 refine(HX.out _).mono ?_
 rintro e w1 ⟨rfl,hb1⟩
 have h3:=(hb1.block (w.heap.size+1) (by omega)).trans HH.out
 obtain⟨b0,b1⟩:=Cb h3
 have HB1:Hid (Below w.heap.size w w1):=HB.out.trans (hb1.mono HB.out.size)
 clear a0 a1 h3 hb1
 go_wp2_with fail
 refine(HY.out _).mono ?_
 rintro e w2 ⟨rfl,hb2⟩
 have HB2:Hid (Below w.heap.size w w2):=HB1.out.trans (hb2.mono HB1.out.size)
 clear hb2
 go_wp2_with fail
 go_ret
 exact⟨rfl,HB2.out⟩
def okW (z:Int):Value:= .tuple #[Ai z,.int .i64 0]
def Wq (w:World) (z:Int) (e:Ending) (w':World):Prop:=e= .returned (okW z)/\Below w.heap.size w w'
theorem Lo {w:World} {b:Nat} {x0 x1:Value} {t:TypeId} {fz:Nat×Nat} (h:w.heap[b]?=some (.cells #[x0,x1] t fz)):∀j u,[x0,x1][j]?=some u->w.cell? ⟨b,0+j,none⟩=some u:=by
 intro j u hu
 rw[Nat.zero_add]
 match j with
 |0=>simp at hu;subst hu;exact(Cb h).1
 |1=>simp at hu;subst hu;exact(Cb h).2
 |j+2=>simp at hu
theorem mL (x y:Int) (w:World) (hx:Gh x) (hy:Gh y) (hz:Gh (x+y)):Calls Tryz.prog 69 #[Ai x,Ai y] w (Wq w (x+y)):=by
 have HBT:=Lib.hid (λw=>Qy x y w hx hy)
 have hxb:=hx.bytes
 have hyb:=hy.bytes
 have HOX:=Lib.hid (λw=>Mo x _ w rfl (Nat.le_trans hxb (by decide)))
 have HOY:=Lib.hid (λw=>Mo y _ w rfl (Nat.le_trans hyb (by decide)))
 have HXD:=Lib.hid hx.digits
 have HYD:=Lib.hid hy.digits
 have hzd:=hz.digits
 have HZF:=Lib.hid hz
 clear hx hy hxb hyb hz
 obtain⟨z,hz⟩:∃z,z=x+y:=⟨_,rfl⟩
 have HZ:=Lib.hid hz
 have HZV:Hid (okW (x+y)=okW z):=by rw[hz];exact rfl
 unfold Wq
 rw[HZV.out]
 clear hz HZV
 unfold okW
 unfold Ai at*
 obtain⟨ng,hng⟩:∃ng,ng=decide (x<0):=⟨_,rfl⟩
 obtain⟨s,hs⟩:∃s,s=Cw x.natAbs:=⟨_,rfl⟩
 obtain⟨mg,hmg⟩:∃mg,mg=decide (y<0):=⟨_,rfl⟩
 obtain⟨t,ht⟩:∃t,t=Cw y.natAbs:=⟨_,rfl⟩
 obtain⟨kg,hkg⟩:∃kg,kg=decide (z<0):=⟨_,rfl⟩
 obtain⟨u,hu⟩:∃u,u=Cw z.natAbs:=⟨_,rfl⟩
 rw[<-hng,<-hs] at HBT HOX ⊢
 rw[<-hmg,<-ht] at HBT HOY ⊢
 have HKU:Hid (Ai z= .agg #[.bool kg,.string u]):=by unfold Hid Ai;rw[hkg,hu]
 rw[<-hkg,<-hu]
 clear hng hs hmg ht hkg hu
 obtain⟨W,hW⟩:∃W,W=((w.alloc (.cells #[.bool ng,.string s] 96)).alloc (.cells #[.bool mg,.string t] 96)).alloc (.cells #[.bool false,.string ⟨#[]⟩] 96):=⟨_,rfl⟩
 have h3:=Im w (.cells #[.bool ng,.string s] 96) (.cells #[.bool mg,.string t] 96) (.cells #[.bool false,.string ⟨#[]⟩] 96)
 rw[<-hW] at h3
 have hsW:W.heap.size=w.heap.size+3:=by rw[hW];simp
 have HB:Hid (Below w.heap.size w W):=by unfold Hid;rw[hW];exact(((Below.refl _ _).alloc (Nat.le_refl _) _).alloc (by simp) _).alloc (by simp;omega) _
 obtain⟨a0,a1⟩:=Cb h3.1
 obtain⟨b0,b1⟩:=Cb h3.2.1
 have HH:=Lib.hid h3
 clear h3
 go_enter func69,ntmps69
 go_upto_region 1 with fail
 rw[<-hW]
 clear hW
 go_wp2_with fail
 refine(HBT.out _).mono ?_
 rintro e w1 ⟨rfl,hb1⟩
 have HB1:Hid (Below w.heap.size w w1):=HB.out.trans (hb1.mono HB.out.size)
 have hs1:w.heap.size+3<=w1.heap.size:=by have:=hb1.size;omega
 have CW:Hid (∀wa,Below w1.heap.size w1 wa->wa.heap[w.heap.size]?=some (.cells #[.bool ng,.string s] 96 (0,0))/\wa.heap[w.heap.size+1]?=some (.cells #[.bool mg,.string t] 96 (0,0))/\wa.heap[w.heap.size+2]?=some (.cells #[.bool false,.string ⟨#[]⟩] 96 (0,0))):=λwa h=>by
  have hb:=hb1.trans (h.mono hb1.size)
  rw[hb.block _ (by omega),hb.block _ (by omega),hb.block _ (by omega)]
  exact HH.out
 clear a0 a1 b0 b1 hb1 hsW HB HH
 go_wp2_with fail
 have HOP:Hid (∀wa u v,Below w1.heap.size w1 wa->Dn x u wa->Dn y v wa->Calls Tryz.prog 90 #[u,v] wa λe w'=>∃v',e= .returned v'/\Below w1.heap.size w1 w'/\Below wa.heap.size wa w'/\Dn z v' w'):=λwa u v hC hu hv=>by
  rw[HZ.out]
  exact(mQ x y u v wa hu hv (Nat.le_trans HXD.out (by decide)) (Nat.le_trans HYD.out (by decide))).mono λ_ _ h=>h.word hC
 have HWD:Hid (∀wa v,Below w1.heap.size w1 wa->Dn z v wa->Calls Tryz.prog 89 #[v] wa λe w'=>∃v',e= .returned v'/\Below w1.heap.size w1 w'/\Below wa.heap.size wa w'/\is (.tuple #[.agg #[.bool kg,.string u],.int .i64 0]) v' w'):=λwa v hC hv=>by
  refine(Oo z v wa hv (by rw[HZ.out];exact Nat.le_trans hzd (by decide))).mono ?_
  rintro e w' ⟨rfl,hb⟩
  refine⟨_,rfl,hC.trans (hb.mono hC.size),hb,?_⟩
  rw[On (by rw[HZ.out];exact HZF.out),HKU.out]
  exact rfl
 refine Eb 8 19 (λw'=>Below w1.heap.size w1 w') [is (.agg #[.bool ng,.string s]),Dn x,is (.agg #[.bool mg,.string t]),Dn y,Dn z,is (.tuple #[.agg #[.bool kg,.string u],.int .i64 0]),is (.agg #[.bool kg,.string u]),is (.int .i64 0)] (by kernel_rfl) (by kernel_rfl) rfl (by decide) ?hst ?h0 ?hop ?htail
 case hst=>
  simp only[List.mem_cons,List.mem_nil_iff,or_false,forall_eq_or_imp,forall_eq]
  exact⟨Aj _,En _,Aj _,En _,En _,Aj _,Aj _,Aj _⟩
 case h0=>exact(Below.refl _ _).drew
 case hop=>
  refine⟨?_,?_,?_,?_,?_,?_,?_,?_,trivial⟩
  · exact Cf 96 (.tmp 2) (.pointer (some ⟨w.heap.size,0,none⟩)) (.agg #[.bool ng,.string s]) rfl (by kernel_rfl) (λwa hC=>Eu [.bool ng,.string s] wa (by kernel_rfl) (by kernel_rfl) (Lo (CW.out wa hC).1)) rfl
  · exact Dc 67 [.tmp 11] _ [.agg #[.bool ng,.string s]] rfl (λ_ _=>by kernel_rfl) ⟨by kernel_rfl,trivial⟩ (λwa hC=>(HOX.out wa).mono λ_ _ h=>h.word hC)
  · exact Cf 96 (.tmp 3) (.pointer (some ⟨w.heap.size+1,0,none⟩)) (.agg #[.bool mg,.string t]) rfl (by kernel_rfl) (λwa hC=>Eu [.bool mg,.string t] wa (by kernel_rfl) (by kernel_rfl) (Lo (CW.out wa hC).2.1)) rfl
  · exact Dc 67 [.tmp 13] _ [.agg #[.bool mg,.string t]] rfl (λ_ _=>by kernel_rfl) ⟨by kernel_rfl,trivial⟩ (λwa hC=>(HOY.out wa).mono λ_ _ h=>h.word hC)
  · exact Og 90 (.tmp 12) (.tmp 14) _ (Dn x) (Dn y) rfl (λ_ _=>by kernel_rfl) (by kernel_rfl) (by kernel_rfl) HOP.out
  · exact Rt 89 (.tmp 15) _ (Dn z) rfl (λ_ _=>by kernel_rfl) (by kernel_rfl) HWD.out
  · exact Vn 16 (.tuple #[.agg #[.bool kg,.string u],.int .i64 0]) (.agg #[.bool kg,.string u]) rfl (by kernel_rfl) (λa wa _ e1=>by go_simp) rfl
  · exact Vn 16 (.tuple #[.agg #[.bool kg,.string u],.int .i64 0]) (.int .i64 0) rfl (by kernel_rfl) (λa wa _ e1=>by go_simp) rfl
 case htail=>
 intro τ w2 hC hR
 have r1:τ 6= .agg #[.bool kg,.string u]:=hR 6 (by decide)
 have r2:τ 7= .int .i64 0:=hR 7 (by decide)
 simp only[Ch,List.getElem?_toArray,List.getElem?_cons_succ,List.getElem?_cons_zero,Option.bind_some,Act.put,List.setIfInBounds_toArray,List.set_cons_succ,List.set_cons_zero,List.drop_succ_cons,List.drop_zero,r1,r2]
 clear hR r1 r2
 have h1:=(CW.out w2 hC).2.2
 have HB2:Hid (Below w.heap.size w w2):=HB1.out.trans (hC.mono HB1.out.size)
 obtain⟨c0,c1⟩:=Cb h1
 have f0:=Ex h1 0
 have f1:=Ex h1 1
 clear hC h1
 go_wp2_with fail
 obtain⟨w3,hw3⟩:∃w3,w3=(w2.setCell ⟨w.heap.size+2,0,none⟩ (.bool kg)).setCell ⟨w.heap.size+2,1,none⟩ (.string u):=⟨_,rfl⟩
 rw[<-hw3]
 obtain⟨k0,k1⟩:w3.cell? ⟨w.heap.size+2,0,none⟩=some (.bool kg)/\w3.cell? ⟨w.heap.size+2,1,none⟩=some (.string u):=by
  rw[hw3];exact Fu c0 c1
 refine bodyPost_ret (v:= .tuple #[.agg #[.bool kg,.string u],.int .i64 0]) (by simp[results,results69,go_sem,k0,k1]) rfl ?_
 refine⟨rfl,?_⟩
 rw[hw3]
 exact Below.store2 HB2.out (by omega) _ _
theorem mO (x y:Int) (w:World) (hx:Gh x) (hy:Gh y) (hz:Gh (x*y)):Calls Tryz.prog 100 #[Ai x,Ai y] w (Wq w (x*y)):=by
 have HBT:=Lib.hid (λw=>Qy x y w hx hy)
 have hxb:=hx.bytes
 have hyb:=hy.bytes
 have HOX:=Lib.hid (λw=>Mo x _ w rfl (Nat.le_trans hxb (by decide)))
 have HOY:=Lib.hid (λw=>Mo y _ w rfl (Nat.le_trans hyb (by decide)))
 have HXD:=Lib.hid hx.digits
 have HYD:=Lib.hid hy.digits
 have hzd:=hz.digits
 have HZF:=Lib.hid hz
 clear hx hy hxb hyb hz
 obtain⟨z,hz⟩:∃z,z=x*y:=⟨_,rfl⟩
 have HZ:=Lib.hid hz
 have HZV:Hid (okW (x*y)=okW z):=by rw[hz];exact rfl
 unfold Wq
 rw[HZV.out]
 clear hz HZV
 unfold okW
 unfold Ai at*
 obtain⟨ng,hng⟩:∃ng,ng=decide (x<0):=⟨_,rfl⟩
 obtain⟨s,hs⟩:∃s,s=Cw x.natAbs:=⟨_,rfl⟩
 obtain⟨mg,hmg⟩:∃mg,mg=decide (y<0):=⟨_,rfl⟩
 obtain⟨t,ht⟩:∃t,t=Cw y.natAbs:=⟨_,rfl⟩
 obtain⟨kg,hkg⟩:∃kg,kg=decide (z<0):=⟨_,rfl⟩
 obtain⟨u,hu⟩:∃u,u=Cw z.natAbs:=⟨_,rfl⟩
 rw[<-hng,<-hs] at HBT HOX ⊢
 rw[<-hmg,<-ht] at HBT HOY ⊢
 have HKU:Hid (Ai z= .agg #[.bool kg,.string u]):=by unfold Hid Ai;rw[hkg,hu]
 rw[<-hkg,<-hu]
 clear hng hs hmg ht hkg hu
 obtain⟨W,hW⟩:∃W,W=((w.alloc (.cells #[.bool ng,.string s] 96)).alloc (.cells #[.bool mg,.string t] 96)).alloc (.cells #[.bool false,.string ⟨#[]⟩] 96):=⟨_,rfl⟩
 have h3:=Im w (.cells #[.bool ng,.string s] 96) (.cells #[.bool mg,.string t] 96) (.cells #[.bool false,.string ⟨#[]⟩] 96)
 rw[<-hW] at h3
 have hsW:W.heap.size=w.heap.size+3:=by rw[hW];simp
 have HB:Hid (Below w.heap.size w W):=by unfold Hid;rw[hW];exact(((Below.refl _ _).alloc (Nat.le_refl _) _).alloc (by simp) _).alloc (by simp;omega) _
 obtain⟨a0,a1⟩:=Cb h3.1
 obtain⟨b0,b1⟩:=Cb h3.2.1
 have HH:=Lib.hid h3
 clear h3
 go_enter func100,ntmps100
 go_upto_region 1 with fail
 rw[<-hW]
 clear hW
 go_wp2_with fail
 refine(HBT.out _).mono ?_
 rintro e w1 ⟨rfl,hb1⟩
 have HB1:Hid (Below w.heap.size w w1):=HB.out.trans (hb1.mono HB.out.size)
 have hs1:w.heap.size+3<=w1.heap.size:=by have:=hb1.size;omega
 have CW:Hid (∀wa,Below w1.heap.size w1 wa->wa.heap[w.heap.size]?=some (.cells #[.bool ng,.string s] 96 (0,0))/\wa.heap[w.heap.size+1]?=some (.cells #[.bool mg,.string t] 96 (0,0))/\wa.heap[w.heap.size+2]?=some (.cells #[.bool false,.string ⟨#[]⟩] 96 (0,0))):=λwa h=>by
  have hb:=hb1.trans (h.mono hb1.size)
  rw[hb.block _ (by omega),hb.block _ (by omega),hb.block _ (by omega)]
  exact HH.out
 clear a0 a1 b0 b1 hb1 hsW HB HH
 go_wp2_with fail
 have HOP:Hid (∀wa u v,Below w1.heap.size w1 wa->Dn x u wa->Dn y v wa->Calls Tryz.prog 120 #[u,v] wa λe w'=>∃v',e= .returned v'/\Below w1.heap.size w1 w'/\Below wa.heap.size wa w'/\Dn z v' w'):=λwa u v hC hu hv=>by
  rw[HZ.out]
  exact(Aa2 x y u v wa hu hv (Nat.le_trans HXD.out (by decide)) (Nat.le_trans HYD.out (by decide))).mono λ_ _ h=>h.word hC
 have HWD:Hid (∀wa v,Below w1.heap.size w1 wa->Dn z v wa->Calls Tryz.prog 89 #[v] wa λe w'=>∃v',e= .returned v'/\Below w1.heap.size w1 w'/\Below wa.heap.size wa w'/\is (.tuple #[.agg #[.bool kg,.string u],.int .i64 0]) v' w'):=λwa v hC hv=>by
  refine(Oo z v wa hv (by rw[HZ.out];exact Nat.le_trans hzd (by decide))).mono ?_
  rintro e w' ⟨rfl,hb⟩
  refine⟨_,rfl,hC.trans (hb.mono hC.size),hb,?_⟩
  rw[On (by rw[HZ.out];exact HZF.out),HKU.out]
  exact rfl
 refine Eb 8 19 (λw'=>Below w1.heap.size w1 w') [is (.agg #[.bool ng,.string s]),Dn x,is (.agg #[.bool mg,.string t]),Dn y,Dn z,is (.tuple #[.agg #[.bool kg,.string u],.int .i64 0]),is (.agg #[.bool kg,.string u]),is (.int .i64 0)] (by kernel_rfl) (by kernel_rfl) rfl (by decide) ?hst ?h0 ?hop ?htail
 case hst=>
  simp only[List.mem_cons,List.mem_nil_iff,or_false,forall_eq_or_imp,forall_eq]
  exact⟨Aj _,En _,Aj _,En _,En _,Aj _,Aj _,Aj _⟩
 case h0=>exact(Below.refl _ _).drew
 case hop=>
  refine⟨?_,?_,?_,?_,?_,?_,?_,?_,trivial⟩
  · exact Cf 96 (.tmp 2) (.pointer (some ⟨w.heap.size,0,none⟩)) (.agg #[.bool ng,.string s]) rfl (by kernel_rfl) (λwa hC=>Eu [.bool ng,.string s] wa (by kernel_rfl) (by kernel_rfl) (Lo (CW.out wa hC).1)) rfl
  · exact Dc 67 [.tmp 11] _ [.agg #[.bool ng,.string s]] rfl (λ_ _=>by kernel_rfl) ⟨by kernel_rfl,trivial⟩ (λwa hC=>(HOX.out wa).mono λ_ _ h=>h.word hC)
  · exact Cf 96 (.tmp 3) (.pointer (some ⟨w.heap.size+1,0,none⟩)) (.agg #[.bool mg,.string t]) rfl (by kernel_rfl) (λwa hC=>Eu [.bool mg,.string t] wa (by kernel_rfl) (by kernel_rfl) (Lo (CW.out wa hC).2.1)) rfl
  · exact Dc 67 [.tmp 13] _ [.agg #[.bool mg,.string t]] rfl (λ_ _=>by kernel_rfl) ⟨by kernel_rfl,trivial⟩ (λwa hC=>(HOY.out wa).mono λ_ _ h=>h.word hC)
  · exact Og 120 (.tmp 12) (.tmp 14) _ (Dn x) (Dn y) rfl (λ_ _=>by kernel_rfl) (by kernel_rfl) (by kernel_rfl) HOP.out
  · exact Rt 89 (.tmp 15) _ (Dn z) rfl (λ_ _=>by kernel_rfl) (by kernel_rfl) HWD.out
  · exact Vn 16 (.tuple #[.agg #[.bool kg,.string u],.int .i64 0]) (.agg #[.bool kg,.string u]) rfl (by kernel_rfl) (λa wa _ e1=>by go_simp) rfl
  · exact Vn 16 (.tuple #[.agg #[.bool kg,.string u],.int .i64 0]) (.int .i64 0) rfl (by kernel_rfl) (λa wa _ e1=>by go_simp) rfl
 case htail=>
 intro τ w2 hC hR
 have r1:τ 6= .agg #[.bool kg,.string u]:=hR 6 (by decide)
 have r2:τ 7= .int .i64 0:=hR 7 (by decide)
 simp only[Ch,List.getElem?_toArray,List.getElem?_cons_succ,List.getElem?_cons_zero,Option.bind_some,Act.put,List.setIfInBounds_toArray,List.set_cons_succ,List.set_cons_zero,List.drop_succ_cons,List.drop_zero,r1,r2]
 clear hR r1 r2
 have h1:=(CW.out w2 hC).2.2
 have HB2:Hid (Below w.heap.size w w2):=HB1.out.trans (hC.mono HB1.out.size)
 obtain⟨c0,c1⟩:=Cb h1
 have f0:=Ex h1 0
 have f1:=Ex h1 1
 clear hC h1
 go_wp2_with fail
 obtain⟨w3,hw3⟩:∃w3,w3=(w2.setCell ⟨w.heap.size+2,0,none⟩ (.bool kg)).setCell ⟨w.heap.size+2,1,none⟩ (.string u):=⟨_,rfl⟩
 rw[<-hw3]
 obtain⟨k0,k1⟩:w3.cell? ⟨w.heap.size+2,0,none⟩=some (.bool kg)/\w3.cell? ⟨w.heap.size+2,1,none⟩=some (.string u):=by
  rw[hw3];exact Fu c0 c1
 refine bodyPost_ret (v:= .tuple #[.agg #[.bool kg,.string u],.int .i64 0]) (by simp[results,results100,go_sem,k0,k1]) rfl ?_
 refine⟨rfl,?_⟩
 rw[hw3]
 exact Below.store2 HB2.out (by omega) _ _
theorem Nf {n m:Nat} (h:n<=m):bitLen n<=bitLen m:=Hb.2 (Nat.lt_of_le_of_lt h (Mg m))
theorem qY {x y:Int} (hx:Gh x) (hy:Gh y):Gh (Nat.gcd x.natAbs y.natAbs:Int):=by
 unfold Gh at*
 rw[Int.natAbs_natCast]
 by_cases h:x.natAbs=0
 rw[h,Nat.gcd_zero_left];exact hy
 exact Nat.le_trans (Nf (Nat.gcd_le_left _ (Nat.pos_of_ne_zero h))) hx
theorem Wh (x y:Int) (w:World) (hx:Gh x) (hy:Gh y):Calls Tryz.prog 96 #[Ai x,Ai y] w λe w'=>e= .returned (.int .i64 (x-y).sign)/\Below w.heap.size w w':=by
 have HBT:=Lib.hid (λw=>Qy x y w hx hy)
 have hxb:=hx.bytes
 have hyb:=hy.bytes
 have HOX:=Lib.hid (λw=>Mo x _ w rfl (Nat.le_trans hxb (by decide)))
 have HOY:=Lib.hid (λw=>Mo y _ w rfl (Nat.le_trans hyb (by decide)))
 have HXD:=Lib.hid hx.digits
 have HYD:=Lib.hid hy.digits
 clear hx hy hxb hyb
 obtain⟨sg,hsg⟩:∃sg,sg=(x-y).sign:=⟨_,rfl⟩
 rw[<-hsg]
 have HSE:=Lib.hid hsg
 clear hsg
 unfold Ai at*
 obtain⟨ng,hng⟩:∃ng,ng=decide (x<0):=⟨_,rfl⟩
 obtain⟨s,hs⟩:∃s,s=Cw x.natAbs:=⟨_,rfl⟩
 obtain⟨mg,hmg⟩:∃mg,mg=decide (y<0):=⟨_,rfl⟩
 obtain⟨t,ht⟩:∃t,t=Cw y.natAbs:=⟨_,rfl⟩
 rw[<-hng,<-hs] at HBT HOX ⊢
 rw[<-hmg,<-ht] at HBT HOY ⊢
 clear hng hs hmg ht
 obtain⟨W,hW⟩:∃W,W=(w.alloc (.cells #[.bool ng,.string s] 96)).alloc (.cells #[.bool mg,.string t] 96):=⟨_,rfl⟩
 have h3:=Nq w (.cells #[.bool ng,.string s] 96) (.cells #[.bool mg,.string t] 96)
 rw[<-hW] at h3
 have hsW:W.heap.size=w.heap.size+2:=by rw[hW];simp
 have HB:Hid (Below w.heap.size w W):=by unfold Hid;rw[hW];exact((Below.refl _ _).alloc (Nat.le_refl _) _).alloc (by simp) _
 obtain⟨a0,a1⟩:=Cb h3.1
 obtain⟨b0,b1⟩:=Cb h3.2
 have HH:=Lib.hid h3
 clear h3
 go_enter func96,ntmps96
 go_upto_region 1 with fail
 rw[<-hW]
 clear hW
 go_wp2_with fail
 refine(HBT.out _).mono ?_
 rintro e w1 ⟨rfl,hb1⟩
 have HB1:Hid (Below w.heap.size w w1):=HB.out.trans (hb1.mono HB.out.size)
 have hs1:w.heap.size+2<=w1.heap.size:=by have:=hb1.size;omega
 have CW:Hid (∀wa,Below w1.heap.size w1 wa->wa.heap[w.heap.size]?=some (.cells #[.bool ng,.string s] 96 (0,0))/\wa.heap[w.heap.size+1]?=some (.cells #[.bool mg,.string t] 96 (0,0))):=λwa h=>by
  have hb:=hb1.trans (h.mono hb1.size)
  rw[hb.block _ (by omega),hb.block _ (by omega)]
  exact HH.out
 clear a0 a1 b0 b1 hb1 hsW HB HH
 go_wp2_with fail
 have HNG:Hid (∀wa v,Below w1.heap.size w1 wa->Dn y v wa->Calls Tryz.prog 111 #[v] wa λe w'=>∃v',e= .returned v'/\Below w1.heap.size w1 w'/\Below wa.heap.size wa w'/\Dn (-y) v' w'):=λwa v hC hv=>
  (Abr y v wa hv).mono λ_ _ h=>h.word hC
 have HAD:Hid (∀wa u v,Below w1.heap.size w1 wa->Dn x u wa->Dn (-y) v wa->Calls Tryz.prog 90 #[u,v] wa λe w'=>∃v',e= .returned v'/\Below w1.heap.size w1 w'/\Below wa.heap.size wa w'/\Dn (x-y) v' w'):=λwa u v hC hu hv=>by
  rw[Int.sub_eq_add_neg]
  exact(mQ x (-y) u v wa hu hv (Nat.le_trans HXD.out (by decide)) (by rw[Int.natAbs_neg];exact Nat.le_trans HYD.out (by decide))).mono λ_ _ h=>h.word hC
 have HSG:Hid (∀wa v,Below w1.heap.size w1 wa->Dn (x-y) v wa->Calls Tryz.prog 112 #[v] wa λe w'=>∃v',e= .returned v'/\Below w1.heap.size w1 w'/\Below wa.heap.size wa w'/\is (.int .i64 sg) v' w'):=λwa v hC hv=>by
  refine(mC (x-y) v wa hv).mono ?_
  rintro e w' ⟨rfl,hb⟩
  exact⟨_,rfl,hC.trans (hb.mono hC.size),hb,by rw[HSE.out];exact rfl⟩
 refine Eb 7 16 (λw'=>Below w1.heap.size w1 w') [is (.agg #[.bool ng,.string s]),Dn x,is (.agg #[.bool mg,.string t]),Dn y,Dn (-y),Dn (x-y),is (.int .i64 sg)] (by kernel_rfl) (by kernel_rfl) rfl (by decide) ?hst ?h0 ?hop ?htail
 case hst=>
  simp only[List.mem_cons,List.mem_nil_iff,or_false,forall_eq_or_imp,forall_eq]
  exact⟨Aj _,En _,Aj _,En _,En _,En _,Aj _⟩
 case h0=>exact(Below.refl _ _).drew
 case hop=>
  refine⟨?_,?_,?_,?_,?_,?_,?_,trivial⟩
  · exact Cf 96 (.tmp 2) (.pointer (some ⟨w.heap.size,0,none⟩)) (.agg #[.bool ng,.string s]) rfl (by kernel_rfl) (λwa hC=>Eu [.bool ng,.string s] wa (by kernel_rfl) (by kernel_rfl) (Lo (CW.out wa hC).1)) rfl
  · exact Dc 67 [.tmp 9] _ [.agg #[.bool ng,.string s]] rfl (λ_ _=>by kernel_rfl) ⟨by kernel_rfl,trivial⟩ (λwa hC=>(HOX.out wa).mono λ_ _ h=>h.word hC)
  · exact Cf 96 (.tmp 3) (.pointer (some ⟨w.heap.size+1,0,none⟩)) (.agg #[.bool mg,.string t]) rfl (by kernel_rfl) (λwa hC=>Eu [.bool mg,.string t] wa (by kernel_rfl) (by kernel_rfl) (Lo (CW.out wa hC).2)) rfl
  · exact Dc 67 [.tmp 11] _ [.agg #[.bool mg,.string t]] rfl (λ_ _=>by kernel_rfl) ⟨by kernel_rfl,trivial⟩ (λwa hC=>(HOY.out wa).mono λ_ _ h=>h.word hC)
  · exact Rt 111 (.tmp 12) _ (Dn y) rfl (λ_ _=>by kernel_rfl) (by kernel_rfl) HNG.out
  · exact Og 90 (.tmp 10) (.tmp 13) _ (Dn x) (Dn (-y)) rfl (λ_ _=>by kernel_rfl) (by kernel_rfl) (by kernel_rfl) HAD.out
  · exact Rt 112 (.tmp 14) _ (Dn (x-y)) rfl (λ_ _=>by kernel_rfl) (by kernel_rfl) HSG.out
 case htail=>
 intro τ w2 hC hR
 have r6:τ 6= .int .i64 sg:=hR 6 (by decide)
 simp only[Ch,List.getElem?_toArray,List.getElem?_cons_succ,List.getElem?_cons_zero,Option.bind_some,Act.put,List.setIfInBounds_toArray,List.set_cons_succ,List.set_cons_zero,List.drop_succ_cons,List.drop_zero,r6]
 clear hR r6
 have HB2:Hid (Below w.heap.size w w2):=HB1.out.trans (hC.mono HB1.out.size)
 clear hC
 go_wp2_with fail
 go_ret
 exact⟨rfl,HB2.out⟩
theorem Aaz (x y:Int) (w:World) (hx:Gh x) (hy:Gh y):Calls Tryz.prog 102 #[Ai x,Ai y] w (Wq w (Nat.gcd x.natAbs y.natAbs:Int)):=by
 have HBT:=Lib.hid (λw=>Qy x y w hx hy)
 have hxb:=hx.bytes
 have hyb:=hy.bytes
 have HLX:=Lib.hid (λw=>Vi x.natAbs _ w rfl (Nat.le_trans hxb (by decide)))
 have HLY:=Lib.hid (λw=>Vi y.natAbs _ w rfl (Nat.le_trans hyb (by decide)))
 have HFZ:=Lib.hid (qY hx hy)
 have HXD:=Lib.hid hx.digits
 have HYD:=Lib.hid hy.digits
 clear hx hy hxb hyb
 obtain⟨z,hz⟩:∃z,z=(Nat.gcd x.natAbs y.natAbs:Int):=⟨_,rfl⟩
 have HZ:=Lib.hid hz
 have HZV:Hid (okW (Nat.gcd x.natAbs y.natAbs:Int)=okW z):=by rw[hz];exact rfl
 unfold Wq
 rw[HZV.out]
 clear hz HZV
 unfold okW
 unfold Ai at*
 obtain⟨ng,hng⟩:∃ng,ng=decide (x<0):=⟨_,rfl⟩
 obtain⟨s,hs⟩:∃s,s=Cw x.natAbs:=⟨_,rfl⟩
 obtain⟨mg,hmg⟩:∃mg,mg=decide (y<0):=⟨_,rfl⟩
 obtain⟨t,ht⟩:∃t,t=Cw y.natAbs:=⟨_,rfl⟩
 obtain⟨kg,hkg⟩:∃kg,kg=decide (z<0):=⟨_,rfl⟩
 obtain⟨u,hu⟩:∃u,u=Cw z.natAbs:=⟨_,rfl⟩
 rw[<-hng,<-hs] at HBT ⊢
 rw[<-hs] at HLX
 rw[<-hmg,<-ht] at HBT ⊢
 rw[<-ht] at HLY
 have HKU:Hid (Ai z= .agg #[.bool kg,.string u]):=by unfold Hid Ai;rw[hkg,hu]
 rw[<-hkg,<-hu]
 clear hng hs hmg ht hkg hu
 obtain⟨W,hW⟩:∃W,W=((w.alloc (.cells #[.bool ng,.string s] 96)).alloc (.cells #[.bool mg,.string t] 96)).alloc (.cells #[.bool false,.string ⟨#[]⟩] 96):=⟨_,rfl⟩
 have h3:=Im w (.cells #[.bool ng,.string s] 96) (.cells #[.bool mg,.string t] 96) (.cells #[.bool false,.string ⟨#[]⟩] 96)
 rw[<-hW] at h3
 have hsW:W.heap.size=w.heap.size+3:=by rw[hW];simp
 have HB:Hid (Below w.heap.size w W):=by unfold Hid;rw[hW];exact(((Below.refl _ _).alloc (Nat.le_refl _) _).alloc (by simp) _).alloc (by simp;omega) _
 obtain⟨a0,a1⟩:=Cb h3.1
 obtain⟨b0,b1⟩:=Cb h3.2.1
 have HH:=Lib.hid h3
 clear h3
 go_enter func102,ntmps102
 go_upto_region 1 with fail
 rw[<-hW]
 clear hW
 go_wp2_with fail
 refine(HBT.out _).mono ?_
 rintro e w1 ⟨rfl,hb1⟩
 have HB1:Hid (Below w.heap.size w w1):=HB.out.trans (hb1.mono HB.out.size)
 have hs1:w.heap.size+3<=w1.heap.size:=by have:=hb1.size;omega
 have CW:Hid (∀wa,Below w1.heap.size w1 wa->wa.heap[w.heap.size]?=some (.cells #[.bool ng,.string s] 96 (0,0))/\wa.heap[w.heap.size+1]?=some (.cells #[.bool mg,.string t] 96 (0,0))/\wa.heap[w.heap.size+2]?=some (.cells #[.bool false,.string ⟨#[]⟩] 96 (0,0))):=λwa h=>by
  have hb:=hb1.trans (h.mono hb1.size)
  rw[hb.block _ (by omega),hb.block _ (by omega),hb.block _ (by omega)]
  exact HH.out
 clear a0 a1 b0 b1 hb1 hsW HB HH
 go_wp2_with fail
 have HGC:Hid (∀wa u v,Below w1.heap.size w1 wa->Kp x.natAbs u wa->Kp y.natAbs v wa->Calls Tryz.prog 121 #[u,v] wa λe w'=>∃v',e= .returned v'/\Below w1.heap.size w1 w'/\Below wa.heap.size wa w'/\Kp (Nat.gcd x.natAbs y.natAbs) v' w'):=λwa u v hC hu hv=>
  (Abe _ _ u v 0 wa.heap.size 0 wa.heap.size wa hu hv (Nat.le_refl _) (Nat.le_refl _) (Nat.le_trans HXD.out (by decide)) (Nat.le_trans HYD.out (by decide))).mono λ_ _ h=>h.word hC
 have HWD:Hid (∀wa v,Below w1.heap.size w1 wa->Dn z v wa->Calls Tryz.prog 89 #[v] wa λe w'=>∃v',e= .returned v'/\Below w1.heap.size w1 w'/\Below wa.heap.size wa w'/\is (.tuple #[.agg #[.bool kg,.string u],.int .i64 0]) v' w'):=λwa v hC hv=>by
  refine(Oo z v wa hv (by rw[HZ.out];exact Nat.le_trans HFZ.out.digits (by decide))).mono ?_
  rintro e w' ⟨rfl,hb⟩
  refine⟨_,rfl,hC.trans (hb.mono hC.size),hb,?_⟩
  rw[On (by rw[HZ.out];exact HFZ.out),HKU.out]
  exact rfl
 obtain⟨G,hG⟩:∃G,G=Nat.gcd x.natAbs y.natAbs:=⟨_,rfl⟩
 rw[<-hG] at HGC
 have HGZ:Hid (It false G=z):=by rw[HZ.out,hG];exact rfl
 clear hG
 refine Eb 11 22 (λw'=>Below w1.heap.size w1 w') [is (.pointer (some ⟨w.heap.size,1,none⟩)),is (.string s),Kp x.natAbs,is (.pointer (some ⟨w.heap.size+1,1,none⟩)),is (.string t),Kp y.natAbs,Kp G,Dn z,is (.tuple #[.agg #[.bool kg,.string u],.int .i64 0]),is (.agg #[.bool kg,.string u]),is (.int .i64 0)] (by kernel_rfl) (by kernel_rfl) rfl (by decide) ?hst ?h0 ?hop ?htail
 case hst=>
  simp only[List.mem_cons,List.mem_nil_iff,or_false,forall_eq_or_imp,forall_eq]
  exact⟨Aj _,Aj _,Gp _,Aj _,Aj _,Gp _,Gp _,En _,Aj _,Aj _,Aj _⟩
 case h0=>exact(Below.refl _ _).drew
 case hop=>
  refine⟨?_,?_,?_,?_,?_,?_,?_,?_,?_,?_,?_,trivial⟩
  · exact Di 96 (.tmp 2) 1 (.pointer (some ⟨w.heap.size,0,none⟩)) (.pointer (some ⟨w.heap.size,1,none⟩)) rfl (by kernel_rfl) (λw=>by kernel_rfl) rfl
  · exact Cf 9 (.tmp 11) (.pointer (some ⟨w.heap.size,1,none⟩)) (.string s) rfl (by kernel_rfl) (λwa hC=>Bz wa (by kernel_rfl) ((Cb (CW.out wa hC).1).2)) rfl
  · exact Dc 86 [.tmp 12] _ [.string s] rfl (λ_ _=>by kernel_rfl) ⟨by kernel_rfl,trivial⟩ (λwa hC=>(HLX.out wa).mono λ_ _ h=>h.word hC)
  · exact Di 96 (.tmp 3) 1 (.pointer (some ⟨w.heap.size+1,0,none⟩)) (.pointer (some ⟨w.heap.size+1,1,none⟩)) rfl (by kernel_rfl) (λw=>by kernel_rfl) rfl
  · exact Cf 9 (.tmp 14) (.pointer (some ⟨w.heap.size+1,1,none⟩)) (.string t) rfl (by kernel_rfl) (λwa hC=>Bz wa (by kernel_rfl) ((Cb (CW.out wa hC).2.1).2)) rfl
  · exact Dc 86 [.tmp 15] _ [.string t] rfl (λ_ _=>by kernel_rfl) ⟨by kernel_rfl,trivial⟩ (λwa hC=>(HLY.out wa).mono λ_ _ h=>h.word hC)
  · exact Og 121 (.tmp 13) (.tmp 16) _ (Kp x.natAbs) (Kp y.natAbs) rfl (λ_ _=>by kernel_rfl) (by kernel_rfl) (by kernel_rfl) HGC.out
  ·
   refine He λa wa hC hpre=>?_
   have h1:Kp G (a.eval (.tmp 17)) wa:=hpre (.tmp 17) (by simp[Op.operands])
   refine⟨.agg #[.bool false,a.eval (.tmp 17)],?_,⟨false,_,G,rfl,h1,HGZ.out⟩⟩
   have h2:=h1.1.slice
   generalize hv:a.eval (.tmp 17)=v at*
   obtain⟨A,c,rfl⟩:=h2
   have e1:a.tmps[17]?.getD undef= .slice A (Bo G).length c:=by simpa [Act.eval] using hv
   clear hpre h1
   go_simp
  · exact Rt 89 (.tmp 18) _ (Dn z) rfl (λ_ _=>by kernel_rfl) (by kernel_rfl) HWD.out
  · exact Vn 19 (.tuple #[.agg #[.bool kg,.string u],.int .i64 0]) (.agg #[.bool kg,.string u]) rfl (by kernel_rfl) (λa wa _ e1=>by go_simp) rfl
  · exact Vn 19 (.tuple #[.agg #[.bool kg,.string u],.int .i64 0]) (.int .i64 0) rfl (by kernel_rfl) (λa wa _ e1=>by go_simp) rfl
 case htail=>
 intro τ w2 hC hR
 have r1:τ 9= .agg #[.bool kg,.string u]:=hR 9 (by decide)
 have r2:τ 10= .int .i64 0:=hR 10 (by decide)
 simp only[Ch,List.getElem?_toArray,List.getElem?_cons_succ,List.getElem?_cons_zero,Option.bind_some,Act.put,List.setIfInBounds_toArray,List.set_cons_succ,List.set_cons_zero,List.drop_succ_cons,List.drop_zero,r1,r2]
 clear hR r1 r2
 have h1:=(CW.out w2 hC).2.2
 have HB2:Hid (Below w.heap.size w w2):=HB1.out.trans (hC.mono HB1.out.size)
 obtain⟨c0,c1⟩:=Cb h1
 have f0:=Ex h1 0
 have f1:=Ex h1 1
 clear hC h1
 go_wp2_with fail
 obtain⟨w3,hw3⟩:∃w3,w3=(w2.setCell ⟨w.heap.size+2,0,none⟩ (.bool kg)).setCell ⟨w.heap.size+2,1,none⟩ (.string u):=⟨_,rfl⟩
 rw[<-hw3]
 obtain⟨k0,k1⟩:w3.cell? ⟨w.heap.size+2,0,none⟩=some (.bool kg)/\w3.cell? ⟨w.heap.size+2,1,none⟩=some (.string u):=by
  rw[hw3];exact Fu c0 c1
 refine bodyPost_ret (v:= .tuple #[.agg #[.bool kg,.string u],.int .i64 0]) (by simp[results,results102,go_sem,k0,k1]) rfl ?_
 refine⟨rfl,?_⟩
 rw[hw3]
 exact Below.store2 HB2.out (by omega) _ _
theorem Jn {n:Int} (h0: -9223372036854775808<=n) (h1:n<=9223372036854775807):Gh n:=by
 refine Nat.le_trans (Nf (m:=Bw) ?_) (by decide)
 have:Bw=18446744073709551616:=rfl
 omega
theorem Ld (n:Int) (w:World) (h0: -9223372036854775808<=n) (h1:n<=9223372036854775807):Calls Tryz.prog 79 #[.int .i64 n] w λe w'=>e= .returned (Ai n)/\Below w.heap.size w w':=by
 have hfit:=Jn h0 h1
 obtain⟨m,hm⟩:∃m,m=n.natAbs:=⟨_,rfl⟩
 have hmB:m<Bw:=by have:Bw=18446744073709551616:=rfl;omega
 obtain⟨kg,hkg⟩:∃kg,kg=decide (n<0):=⟨_,rfl⟩
 obtain⟨u,hu⟩:∃u,u=Cw n.natAbs:=⟨_,rfl⟩
 have HKU:Hid (Ai n= .agg #[.bool kg,.string u]):=by unfold Hid Ai;rw[hkg,hu]
 rw[HKU.out]
 have HSG:Hid (It kg m=n):=by rw[hkg,hm];exact Aaj n
 have HF:=Lib.hid hfit
 have HMB:=Lib.hid hmB
 clear hu hfit
 obtain⟨W,hW⟩:∃W,W=w.alloc (.cells #[.bool false,.string ⟨#[]⟩] 96):=⟨_,rfl⟩
 have hh:W.heap[w.heap.size]?=some (.cells #[.bool false,.string ⟨#[]⟩] 96 (0,0)):=by rw[hW];exact heap_alloc_new w _
 have hsW:W.heap.size=w.heap.size+1:=by rw[hW];simp
 have HB:Hid (Below w.heap.size w W):=by unfold Hid;rw[hW];exact(Below.refl _ _).alloc (Nat.le_refl _) _
 have HH:=Lib.hid hh
 clear hh
 have hT:=Wf W m hmB 128
 rw[hsW] at hT
 have HT:=Lib.hid hT
 clear hT
 have HWD:Hid (∀wa v,Jj v wa n->Calls Tryz.prog 89 #[v] wa λe w'=>e= .returned (.tuple #[.agg #[.bool kg,.string u],.int .i64 0])/\Below wa.heap.size wa w'):=λwa v hv=>by
  have:=Oo n v wa hv (Nat.le_trans HF.out.digits (by decide))
  unfold qC at this
  rw[On HF.out,HKU.out] at this
  exact this
 by_cases hneg:n<0
 ·
  have hkt:kg=true:=by rw[hkg];simp[hneg]
  subst hkt
  obtain⟨m0,hm0⟩:∃m0:Nat,(m0:Int)=n+18446744073709551616:=⟨(n+18446744073709551616).toNat,by omega⟩
  have HW0:Hid (IntKind.u64.wrap n=(m0:Int)):=by
   unfold Hid;rw[hm0];show n%18446744073709551616=_;omega
  have HW1':Hid (IntKind.u64.wrap (-(m0:Int))=(m:Int)):=by
   unfold Hid;show (-(m0:Int))%18446744073709551616=_;omega
  clear hm0 hkg hm hmB h0 h1
  go_enter func79,ntmps79
  go_upto_region 1 with fail
  rw[<-hW]
  clear hW
  have hw0:=HW0.out
  have hw1:=HW1'.out
  go_wp2_with fail
  refine HT.out.mono ?_
  rintro e w1 ⟨v,rfl,hv,hb1⟩
  obtain⟨A,c,rfl⟩:=hv.1.slice
  have HV:Hid (Jj (.agg #[.bool true,.slice A (Bo m).length c]) w1 n):=⟨true,_,m,rfl,hv.more (Nat.zero_le _) (Nat.le_refl _),HSG.out⟩
  have HB1:Hid (Below w.heap.size w w1):=HB.out.trans (hb1.mono HB.out.size)
  have hw1:w1.heap[w.heap.size]?=some (.cells #[.bool false,.string ⟨#[]⟩] 96 (0,0)):=(hb1.block _ (by omega)).trans HH.out
  have hs1:w.heap.size+1<=w1.heap.size:=by have:=hb1.size;omega
  have HW1:=Lib.hid hw1
  clear hv hb1 hw1 HT
  go_wp2_with fail
  refine(HWD.out _ _ HV.out).mono ?_
  rintro e w2 ⟨rfl,hb2⟩
  have HB2:Hid (Below w.heap.size w w2):=HB1.out.trans (hb2.mono HB1.out.size)
  have hw2:w2.heap[w.heap.size]?=some (.cells #[.bool false,.string ⟨#[]⟩] 96 (0,0)):=(hb2.block _ (by omega)).trans HW1.out
  have hs2:w.heap.size+1<=w2.heap.size:=by have:=hb2.size;omega
  have hw3:(w2.alloc (.cells #[.bool true,.string u] 96)).heap[w.heap.size]?=some (.cells #[.bool false,.string ⟨#[]⟩] 96 (0,0)):=(Below.heap_alloc _ _ _ (by omega)).trans hw2
  obtain⟨c0,c1⟩:=Cb hw3
  have f0:=Ex hw3 0
  have f1:=Ex hw3 1
  clear hb2 hw2 hw3
  go_wp2_with fail
  obtain⟨w4,hw4⟩:∃w4,w4=((w2.alloc (.cells #[.bool true,.string u] 96)).setCell ⟨w.heap.size,0,none⟩ (.bool true)).setCell ⟨w.heap.size,1,none⟩ (.string u):=⟨_,rfl⟩
  rw[<-hw4]
  obtain⟨k0,k1⟩:w4.cell? ⟨w.heap.size,0,none⟩=some (.bool true)/\w4.cell? ⟨w.heap.size,1,none⟩=some (.string u):=by
   rw[hw4];exact Fu c0 c1
  refine bodyPost_ret (v:= .agg #[.bool true,.string u]) (by simp[results,results79,go_sem,k0,k1]) rfl ?_
  refine⟨rfl,?_⟩
  rw[hw4]
  exact Below.store2 (HB2.out.alloc (by omega) _) (Nat.le_refl _) _ _
 ·
  have hkt:kg=false:=by rw[hkg];simp;omega
  subst hkt
  obtain rfl:n=(m:Int):=by omega
  have HW0:Hid (IntKind.u64.wrap (m:Int)=(m:Int)):=Cy hmB
  have hn0:¬(m:Int)<0:=by omega
  clear hkg hm hmB h0 h1 hneg
  go_enter func79,ntmps79
  go_upto_region 1 with fail
  rw[<-hW]
  clear hW
  have hw0:=HW0.out
  go_wp2_with fail
  refine HT.out.mono ?_
  rintro e w1 ⟨v,rfl,hv,hb1⟩
  obtain⟨A,c,rfl⟩:=hv.1.slice
  have HV:Hid (Jj (.agg #[.bool false,.slice A (Bo m).length c]) w1 (m:Int)):=⟨false,_,m,rfl,hv.more (Nat.zero_le _) (Nat.le_refl _),HSG.out⟩
  have HB1:Hid (Below w.heap.size w w1):=HB.out.trans (hb1.mono HB.out.size)
  have hw1:w1.heap[w.heap.size]?=some (.cells #[.bool false,.string ⟨#[]⟩] 96 (0,0)):=(hb1.block _ (by omega)).trans HH.out
  have hs1:w.heap.size+1<=w1.heap.size:=by have:=hb1.size;omega
  have HW1:=Lib.hid hw1
  clear hv hb1 hw1 HT
  go_wp2_with fail
  refine(HWD.out _ _ HV.out).mono ?_
  rintro e w2 ⟨rfl,hb2⟩
  have HB2:Hid (Below w.heap.size w w2):=HB1.out.trans (hb2.mono HB1.out.size)
  have hw2:w2.heap[w.heap.size]?=some (.cells #[.bool false,.string ⟨#[]⟩] 96 (0,0)):=(hb2.block _ (by omega)).trans HW1.out
  have hs2:w.heap.size+1<=w2.heap.size:=by have:=hb2.size;omega
  have hw3:(w2.alloc (.cells #[.bool false,.string u] 96)).heap[w.heap.size]?=some (.cells #[.bool false,.string ⟨#[]⟩] 96 (0,0)):=(Below.heap_alloc _ _ _ (by omega)).trans hw2
  obtain⟨c0,c1⟩:=Cb hw3
  have f0:=Ex hw3 0
  have f1:=Ex hw3 1
  clear hb2 hw2 hw3
  go_wp2_with fail
  obtain⟨w4,hw4⟩:∃w4,w4=((w2.alloc (.cells #[.bool false,.string u] 96)).setCell ⟨w.heap.size,0,none⟩ (.bool false)).setCell ⟨w.heap.size,1,none⟩ (.string u):=⟨_,rfl⟩
  rw[<-hw4]
  obtain⟨k0,k1⟩:w4.cell? ⟨w.heap.size,0,none⟩=some (.bool false)/\w4.cell? ⟨w.heap.size,1,none⟩=some (.string u):=by
   rw[hw4];exact Fu c0 c1
  refine bodyPost_ret (v:= .agg #[.bool false,.string u]) (by simp[results,results79,go_sem,k0,k1]) rfl ?_
  refine⟨rfl,?_⟩
  rw[hw4]
  exact Below.store2 (HB2.out.alloc (by omega) _) (Nat.le_refl _) _ _
theorem mN (z:Int) (w:World) (h0: -9223372036854775808<=z) (h1:z<=9223372036854775807):Calls Tryz.prog 47 #[Ai z] w λe w'=>e= .returned (.tuple #[.int .i64 z,.int .i64 0])/\Below w.heap.size w w':=by
 have hfit:=Jn h0 h1
 have HVA:=Lib.hid (λw=>Jq z w hfit)
 have HOF:=Lib.hid (λw=>Mo z _ w rfl (Nat.le_trans hfit.bytes (by decide)))
 have hnB:z.natAbs<Bw:=by have:Bw=18446744073709551616:=rfl;omega
 have HR0:=Lib.hid h0
 have HR1:=Lib.hid h1
 clear hfit h0 h1
 unfold Ai at*
 obtain⟨ng,hng⟩:∃ng,ng=decide (z<0):=⟨_,rfl⟩
 obtain⟨s,hs⟩:∃s,s=Cw z.natAbs:=⟨_,rfl⟩
 rw[<-hng,<-hs] at HVA HOF ⊢
 have HNB:=Lib.hid hnB
 clear hng hs hnB
 obtain⟨W,hW⟩:∃W,W=w.alloc (.cells #[.bool ng,.string s] 96):=⟨_,rfl⟩
 have hh:W.heap[w.heap.size]?=some (.cells #[.bool ng,.string s] 96 (0,0)):=by rw[hW];exact heap_alloc_new w _
 have hsW:W.heap.size=w.heap.size+1:=by rw[hW];simp
 have HB:Hid (Below w.heap.size w W):=by unfold Hid;rw[hW];exact(Below.refl _ _).alloc (Nat.le_refl _) _
 obtain⟨a0,a1⟩:=Cb hh
 have HH:=Lib.hid hh
 clear hh
 go_enter func47,ntmps47
 go_upto_region 1 with fail
 rw[<-hW]
 clear hW
 go_wp2_with fail
 refine(HVA.out _).mono ?_
 rintro e w1 ⟨rfl,hb1⟩
 have HB1:Hid (Below w.heap.size w w1):=HB.out.trans (hb1.mono HB.out.size)
 obtain⟨b0,b1⟩:=Cb ((hb1.block w.heap.size (by omega)).trans HH.out)
 clear a0 a1 hb1 HB HH hsW
 go_wp2_with fail
 refine(HOF.out _).mono ?_
 rintro e w2 ⟨v,rfl,hv,hb2⟩
 have HB2:Hid (Below w.heap.size w w2):=HB1.out.trans (hb2.mono HB1.out.size)
 clear b0 b1 hb2 HB1
 obtain⟨kg,mv,n,rfl,hn,hz⟩:=hv
 have hna:z.natAbs=n:=by rw[<-hz,Zc]
 have hnB:n<Bw:=by rw[<-hna];exact HNB.out
 have hll:(Bo n).length<=1:=Gd (by rw[Nat.pow_one];exact hnB)
 by_cases hn0:n=0
 ·
  have hz0:z=0:=by omega
  subst hz0
  obtain⟨A,c,rfl⟩:=hn.1.slice
  have hlen:(Bo n).length=0:=by rw[hn0,Ea];rfl
  rw[hlen]
  clear hn hz hna hnB hll hn0 hlen
  go_wp2_with fail
  go_ret2
  exact⟨rfl,HB2.out.alloc HB2.out.size _⟩
 ·
  have hpos:0<(Bo n).length:=List.length_pos_iff.2 λe=>hn0 (Jd.1 e)
  have hl1:(Bo n).length=1:=by omega
  obtain⟨b,o,c,rfl,_,hb,hc⟩:=hn.1.pos hpos
  have hdn:dg (Bo n) 0=n:=by
   have:=Ff (Bo n) 0
   rw[Iy (by omega),Eg,Ky] at this
   simp at this;exact this.symm
  have g0:w2.cell? ⟨b,o,none⟩=some (.int .u64 (n:Int)):=by
   have:=hc 0 _ (Ev (Bo n) 0 hpos)
   rw[hdn] at this;exact this
  rw[hl1]
  have HB3:Hid (Below w.heap.size w (w2.alloc (.cells #[.bool kg,.slice (some ⟨b,o,none⟩) 1 c] 126))):=HB2.out.alloc HB2.out.size _
  have g1:(w2.alloc (.cells #[.bool kg,.slice (some ⟨b,o,none⟩) 1 c] 126)).cell? ⟨b,o,none⟩=some (.int .u64 (n:Int)):=(Below.cell ((Below.refl w2.heap.size w2).alloc (Nat.le_refl _) _) (p:=⟨b,o,none⟩) hb).trans g0
  cases kg with
  |true=>
   have hzn:z= -(n:Int):=by rw[<-hz];rfl
   have HLT:Hid (decide ((9223372036854775808:Int)<(n:Int))=false):=by unfold Hid;have:=HR0.out;simp;omega
   obtain⟨k,hk⟩:∃k:Nat,(k:Int)=18446744073709551616-(n:Int):=⟨(18446744073709551616-(n:Int)).toNat,by have:Bw=18446744073709551616:=rfl;omega⟩
   have HW0:Hid (IntKind.u64.wrap (-(n:Int))=(k:Int)):=by
    unfold Hid;show (-(n:Int))%18446744073709551616=_
    omega
   have HW1:Hid (IntKind.i64.wrap (k:Int)=z):=by
    unfold Hid;rw[IntKind.wrap_i64,hk];have:=HR0.out;omega
   have HW2:Hid (wrap64 (k:Int)=z):=by
    unfold Hid wrap64;rw[hk];have:=HR0.out;omega
   have HNL:Hid (n<=9223372036854775808):=by unfold Hid;have:=HR0.out;omega
   clear hn hz hna hnB hll hn0 hc hdn hl1 hpos g0 hzn hk
   go_wp2_with (first|rw[HLT.out]|rw[HW0.out]|rw[HW1.out]|rw[HW2.out])
   all_goals first
    |(exfalso;have:=HNL.out;omega)
    |(go_ret2;exact⟨rfl,HB3.out⟩)
  |false=>
   have hzn:z=(n:Int):=by rw[<-hz];rfl
   have HLT:Hid (decide ((9223372036854775808:Int)<(n:Int))=false):=by unfold Hid;have:=HR1.out;simp;omega
   have HLE:Hid (decide ((9223372036854775808:Int)<=(n:Int))=false):=by unfold Hid;have:=HR1.out;simp;omega
   have HW1:Hid (IntKind.i64.wrap (n:Int)=z):=by unfold Hid;rw[IntKind.wrap_i64];have:=HR1.out;omega
   have HW2:Hid (wrap64 (n:Int)=z):=by unfold Hid wrap64;have:=HR1.out;omega
   have HNL:Hid (n<9223372036854775808):=by unfold Hid;have:=HR1.out;omega
   clear hn hz hna hnB hll hn0 hc hdn hl1 hpos g0 hzn
   go_wp2_with (first|rw[HLT.out]|rw[HLE.out]|rw[HW1.out]|rw[HW2.out])
   all_goals first
    |(exfalso;have:=HNL.out;omega)
    |(go_ret2;exact⟨rfl,HB3.out⟩)
def Hn (x y:Int) (v:Value) (w:World):Prop:=∃v1 v2,v= .tuple #[v1,v2]/\Jj v1 w x/\Jj v2 w y
theorem Vu (x y:Int):Id (Hn x y):=λ_ _ _ hb ⟨v1,v2,h1,h2,h3⟩=>⟨v1,v2,h1,h2.up hb,h3.up hb⟩
theorem AaY {x y:Int} (hx:Gh x):Gh (x/y):=Nat.le_trans (Nf (Int.natAbs_ediv_le_natAbs x y)) hx
theorem Abm {x y:Int} (hy:Gh y) (h0:y≠0):Gh (x%y):=by
 refine Nat.le_trans (Nf (m:=y.natAbs) ?_) hy
 have h1:=Int.emod_nonneg x h0
 have h2:x%y<(y.natAbs:Int):=Int.emod_lt x h0
 omega
theorem Jj.store2 {w:World} {v:Value} {z:Int} {b:Nat} {x0 x1:Value} {t:TypeId} {fz:Nat×Nat} (h:Jj v w z) (hb:w.heap[b]?=some (.cells #[x0,x1] t fz)) (h0:Nc x0) (h1:Nc x1) (u0 u1:Value):
  Jj v ((w.setCell ⟨b,0,none⟩ u0).setCell ⟨b,1,none⟩ u1) z:=by
 obtain⟨ng,mv,n,e,hn,hz⟩:=h
 refine⟨ng,mv,n,e,?_,hz⟩
 rw[Gq]
 exact hn.store2 hb h0 h1 _ _
theorem Gl {w:World} {b:Nat} (u0 u1:Value) {k:Nat} (hk:k≠b):((w.setCell ⟨b,0,none⟩ u0).setCell ⟨b,1,none⟩ u1).heap[k]?=w.heap[k]?:=by
 rw[Below.heap_setCell _ ⟨b,1,none⟩ _ _ hk,Below.heap_setCell _ ⟨b,0,none⟩ _ _ hk]
theorem Ok {w:World} {b:Nat} {x0 x1:Value} {t:TypeId} {fz:Nat×Nat} (hb:w.heap[b]?=some (.cells #[x0,x1] t fz)) (u0 u1:Value):((w.setCell ⟨b,0,none⟩ u0).setCell ⟨b,1,none⟩ u1).heap[b]?=some (.cells #[u0,u1] t fz):=by
 simp[World.setCell,Array.getElem?_modify,hb]
def Th (w:World) (b:Nat) (st:Bool) (z:Int):Prop:=
 if st then ∃g A n c,w.heap[b]?=some (.cells #[.bool g,.slice A (Bo n).length c] 126 (0,0))/\Cg w 0 w.heap.size (.slice A (Bo n).length c) n/\It g n=z
 else w.heap[b]?=some (.cells #[.bool false,.slice none 0 0] 126 (0,0))
theorem Th.lt {w:World} {b:Nat} {st:Bool} {z:Int} (h:Th w b st z):b<w.heap.size:=by
 cases st with
 |false=>exact(Array.getElem?_eq_some_iff.1 h).1
 |true=>obtain⟨_,_,_,_,h,_⟩:=h;exact(Array.getElem?_eq_some_iff.1 h).1
theorem Th.up {w w':World} {b:Nat} {st:Bool} {z:Int} (h:Th w b st z) (hb:Below w.heap.size w w'):Th w' b st z:=by
 have hl:=h.lt
 cases st with
 |false=>exact(hb.block b hl).trans h
 |true=>
  obtain⟨g,A,n,c,h1,h2,h3⟩:=h
  exact⟨g,A,n,c,(hb.block b hl).trans h1,h2.up (Nat.le_refl _) hb,h3⟩
theorem Th.store {w:World} {b b':Nat} {st:Bool} {z:Int} (h:Th w b st z) {x0 x1:Value} {t:TypeId} {fz:Nat×Nat} (hb:w.heap[b']?=some (.cells #[x0,x1] t fz)) (h0:Nc x0) (h1:Nc x1) (hne:b≠b') (u0 u1:Value):
  Th ((w.setCell ⟨b',0,none⟩ u0).setCell ⟨b',1,none⟩ u1) b st z:=by
 cases st with
 |false=>exact(Gl u0 u1 hne).trans h
 |true=>
  obtain⟨g,A,n,c,e1,e2,e3⟩:=h
  refine⟨g,A,n,c,(Gl u0 u1 hne).trans e1,?_,e3⟩
  rw[Gq]
  exact e2.store2 hb h0 h1 _ _
def Sl (r:Value->World->Prop):Prop:=∀(v:Value) (w:World) (b:Nat) (x0 x1:Value) (t:TypeId) (fz:Nat×Nat) (u0 u1:Value),w.heap[b]?=some (.cells #[x0,x1] t fz)->Nc x0->Nc x1->r v w->r v ((w.setCell ⟨b,0,none⟩ u0).setCell ⟨b,1,none⟩ u1)
theorem aQ (x:Value):Sl (is x):=λ_ _ _ _ _ _ _ _ _ _ _ _ h=>h
theorem Ma (z:Int):Sl (Dn z):=λ_ _ _ _ _ _ _ u0 u1 hb h0 h1 h=>Jj.store2 h hb h0 h1 u0 u1
theorem To (x y:Int):Sl (Hn x y):=λ_ _ _ _ _ _ _ u0 u1 hb h0 h1 ⟨v1,v2,e,h2,h3⟩=>⟨v1,v2,e,h2.store2 hb h0 h1 u0 u1,h3.store2 hb h0 h1 u0 u1⟩
structure QJ (W1:World) (Ws:List (Value->World->Prop)) (q r:Int) (σ:Nat->Value) (L:Nat->Bool) (w:World):Prop where
 below:Below W1.heap.size W1 w
 words:∀j,L j=true->Kl Ws j (σ j) w
 e1:L 8=true->∃b,σ 8= .pointer (some ⟨b,0,none⟩)/\W1.heap.size<=b/\Th w b (L 10) q
 e2:L 9=true->∃b,σ 9= .pointer (some ⟨b,0,none⟩)/\W1.heap.size<=b/\Th w b (L 11) r
 e3:L 8=true->L 9=true->σ 8≠σ 9
 e4:L 10=true->L 8=true
 e5:L 11=true->L 9=true
theorem QJ.plain {W1:World} {Ws:List (Value->World->Prop)} {q r:Int} (hst:∀r∈Ws,Id r) {i:Nat} (hi:i<8) (σ:Nat->Value) (L:Nat->Bool) (w w':World) (v:Value) (h:QJ W1 Ws q r σ L w) (_:L i=false) (hC:Below W1.heap.size W1 w') (hb:Below w.heap.size w w') (hv:Kl Ws i v w'):
  QJ W1 Ws q r (λj=>if j=i then v else σ j) (λj=>if j=i then true else L j) w':=by
 refine⟨hC,λj hj=>?_,λhj=>?_,λhj=>?_,λhj hk=>?_,λhj=>?_,λhj=>?_⟩
 by_cases e:j=i
 subst e;simpa using hv
 simp only[if_neg e] at hj ⊢
 exact Kb hst j _ _ _ hb (h.words j hj)
 simp only[if_neg (show ¬8=i by omega),if_neg (show ¬10=i by omega)] at hj ⊢
 obtain⟨b,h1,h2,h3⟩:=h.e1 hj
 exact⟨b,h1,h2,h3.up hb⟩
 simp only[if_neg (show ¬9=i by omega),if_neg (show ¬11=i by omega)] at hj ⊢
 obtain⟨b,h1,h2,h3⟩:=h.e2 hj
 exact⟨b,h1,h2,h3.up hb⟩
 simp only[if_neg (show ¬8=i by omega),if_neg (show ¬9=i by omega)] at hj hk ⊢
 exact h.e3 hj hk
 simp only[if_neg (show ¬10=i by omega),if_neg (show ¬8=i by omega)] at hj ⊢
 exact h.e4 hj
 simp only[if_neg (show ¬11=i by omega),if_neg (show ¬9=i by omega)] at hj ⊢
 exact h.e5 hj
theorem Sx {Ws:List (Value->World->Prop)} {j:Nat} (h:Ws.length<=j) (v:Value) (w:World):Kl Ws j v w:=by
 unfold Kl;rw[List.getD_eq_getElem?_getD,List.getElem?_eq_none h];trivial
theorem QJ.alloc8 {W1:World} {Ws:List (Value->World->Prop)} {q r:Int} (hst:∀r∈Ws,Id r) (hlen:Ws.length<=8) {ops:Array Oper} {n:Nat} {a0:Act} {Q:Exit->Act->World->Prop} {o:Oper}
  (hrun:∀(a:Act) (w:World),(execOp a.eval o).run Tryz.prog w= .ok (.value (.pointer (some ⟨w.heap.size,0,none⟩))) (w.alloc (.cells #[.bool false,.slice none 0 0] 126))):Qh Tryz.prog ops n (QJ W1 Ws q r) a0 Q 8 o:=by
 intro a w σ L _ _ _ _ hi h
 unfold Oper.wp
 rw[hrun a w]
 have hb:Below w.heap.size w (w.alloc (.cells #[.bool false,.slice none 0 0] 126)):=(Below.refl _ _).alloc (Nat.le_refl _) _
 have hS:L 10=false:=by
  cases hx:L 10 with
  |false=>rfl
  |true=>have:=h.e4 hx;rw[hi] at this;cases this
 refine⟨_,rfl,h.below.alloc h.below.size _,λj hj=>?_,λhj=>?_,λhj=>?_,λhj hk=>?_,λhj=>?_,λhj=>?_⟩
 by_cases e:j=8
 subst e;exact Sx (by omega) _ _
 simp only[if_neg e] at hj ⊢
 exact Kb hst j _ _ _ hb (h.words j hj)
 simp only[if_true,if_neg (show ¬10=8 by decide)] at hj ⊢
 rw[hS]
 exact⟨_,rfl,h.below.size,heap_alloc_new w _⟩
 simp only[if_neg (show ¬9=8 by decide),if_neg (show ¬11=8 by decide)] at hj ⊢
 obtain⟨b,h1,h2,h3⟩:=h.e2 hj
 exact⟨b,h1,h2,h3.up hb⟩
 simp only[if_true,if_neg (show ¬9=8 by decide)] at hj hk ⊢
 intro e
 obtain⟨b,h1,_,h3⟩:=h.e2 (by first|exact hj|exact hk)
 rw[h1] at e
 cases e
 exact absurd h3.lt (Nat.lt_irrefl _)
 simp only[if_neg (show ¬10=8 by decide)] at hj ⊢
 split
 rfl
 exact h.e4 hj
 simp only[if_neg (show ¬11=8 by decide)] at hj ⊢
 split
 rfl
 exact h.e5 hj
theorem QJ.alloc9 {W1:World} {Ws:List (Value->World->Prop)} {q r:Int} (hst:∀r∈Ws,Id r) (hlen:Ws.length<=8) {ops:Array Oper} {n:Nat} {a0:Act} {Q:Exit->Act->World->Prop} {o:Oper}
  (hrun:∀(a:Act) (w:World),(execOp a.eval o).run Tryz.prog w= .ok (.value (.pointer (some ⟨w.heap.size,0,none⟩))) (w.alloc (.cells #[.bool false,.slice none 0 0] 126))):Qh Tryz.prog ops n (QJ W1 Ws q r) a0 Q 9 o:=by
 intro a w σ L _ _ _ _ hi h
 unfold Oper.wp
 rw[hrun a w]
 have hb:Below w.heap.size w (w.alloc (.cells #[.bool false,.slice none 0 0] 126)):=(Below.refl _ _).alloc (Nat.le_refl _) _
 have hS:L 11=false:=by
  cases hx:L 11 with
  |false=>rfl
  |true=>have:=h.e5 hx;rw[hi] at this;cases this
 refine⟨_,rfl,h.below.alloc h.below.size _,λj hj=>?_,λhj=>?_,λhj=>?_,λhj hk=>?_,λhj=>?_,λhj=>?_⟩
 by_cases e:j=9
 subst e;exact Sx (by omega) _ _
 simp only[if_neg e] at hj ⊢
 exact Kb hst j _ _ _ hb (h.words j hj)
 simp only[if_neg (show ¬8=9 by decide),if_neg (show ¬10=9 by decide)] at hj ⊢
 obtain⟨b,h1,h2,h3⟩:=h.e1 hj
 exact⟨b,h1,h2,h3.up hb⟩
 simp only[if_true,if_neg (show ¬11=9 by decide)] at hj ⊢
 rw[hS]
 exact⟨_,rfl,h.below.size,heap_alloc_new w _⟩
 simp only[if_true,if_neg (show ¬8=9 by decide)] at hj hk ⊢
 intro e
 obtain⟨b,h1,_,h3⟩:=h.e1 (by first|exact hj|exact hk)
 rw[h1] at e
 cases e
 exact absurd h3.lt (Nat.lt_irrefl _)
 simp only[if_neg (show ¬10=9 by decide)] at hj ⊢
 split
 rfl
 exact h.e4 hj
 simp only[if_neg (show ¬11=9 by decide)] at hj ⊢
 split
 rfl
 exact h.e5 hj
theorem QJ.store10 {W1:World} {Ws:List (Value->World->Prop)} {q r:Int} (hst:∀r∈Ws,Sl r) (hlen:Ws.length<=8) (hW:Kl Ws 6=Dn q) {ops:Array Oper} {n:Nat} {a0:Act} {Q:Exit->Act->World->Prop} {o:Oper}
  (ho:o={ o with op:= .store 126 (.tmp 7) (.tmp 26),dst:=none }) (hs1:Db ops n 7=some 8) (hs2:Db ops n 26=some 6):Qh Tryz.prog ops n (QJ W1 Ws q r) a0 Q 10 o:=by
 intro a w σ L _ ht _ _ hi h
 have hop:o.op= .store 126 (.tmp 7) (.tmp 26):=by rw[ho]
 have hdst:o.dst=none:=by rw[ho]
 obtain⟨hl,hv⟩:=ht 7 8 (by rw[hop];simp[Op.operands]) hs1
 obtain⟨hl2,hv2⟩:=ht 26 6 (by rw[hop];simp[Op.operands]) hs2
 obtain⟨b,h1,h2,h3⟩:=h.e1 hl
 rw[hi] at h3
 have hcell:w.heap[b]?=some (.cells #[.bool false,.slice none 0 0] 126 (0,0)):=h3
 have hword:=h.words 6 hl2
 rw[hW] at hword
 obtain⟨g,mv,m,e1,hn,hz⟩:=hword
 obtain⟨A,c,rfl⟩:=hn.1.slice
 have hrun:(execOp a.eval o).run Tryz.prog w= .ok .skip ((w.setCell ⟨b,0,none⟩ (.bool g)).setCell ⟨b,1,none⟩ (.slice A (Bo m).length c)):=by
  obtain⟨c0,c1⟩:=Cb hcell
  have f0:=Ex hcell 0
  have f1:=Ex hcell 1
  have x1:a.tmps[7]?.getD undef= .pointer (some ⟨b,0,none⟩):=by rw[<-h1,<-hv];simp
  have x2:a.tmps[26]?.getD undef= .agg #[.bool g,.slice A (Bo m).length c]:=by rw[<-e1,<-hv2];simp
  clear hv hv2 h1 e1 h h2 h3 hcell hn hz ht ho hst hW
  unfold execOp
  rw[hop]
  go_simp
 unfold Oper.wp
 rw[hrun]
 refine⟨undef,by rw[hdst],Below.store2 h.below h2 _ _,λj hj=>?_,λhj=>?_,λhj=>?_,λhj hk=>?_,λhj=>?_,λhj=>?_⟩
 ·
  by_cases e:j=10
  · subst e;exact Sx (by omega) _ _
  ·
   simp only[if_neg e] at hj ⊢
   have hw:=h.words j hj
   unfold Kl at*
   rw[List.getD_eq_getElem?_getD] at*
   cases hx:Ws[j]? with
   |none=>trivial
   |some r'=>rw[hx] at hw;exact hst r' (List.mem_of_getElem? hx) _ _ _ _ _ _ _ _ _ hcell trivial trivial hw
 ·
  simp only[if_neg (show ¬8=10 by decide),if_true] at hj ⊢
  exact⟨b,h1,h2,g,A,m,c,Ok hcell _ _,by rw[Gq];exact hn.store2 hcell trivial trivial _ _,hz⟩
 ·
  simp only[if_neg (show ¬9=10 by decide),if_neg (show ¬11=10 by decide)] at hj ⊢
  obtain⟨b',k1,k2,k3⟩:=h.e2 hj
  refine⟨b',k1,k2,k3.store hcell trivial trivial (λe=>?_) _ _⟩
  subst e
  exact h.e3 (by first|exact hj|exact hl) (by first|exact hl|exact hj) (by rw[h1,k1])
 ·
  simp only[if_neg (show ¬8=10 by decide),if_neg (show ¬9=10 by decide)] at hj hk ⊢
  exact h.e3 hj hk
 ·
  simp only[if_neg (show ¬8=10 by decide)] at hj ⊢
  exact hl
 ·
  simp only[if_neg (show ¬9=10 by decide)] at hj ⊢
  simp only[if_neg (show ¬11=10 by decide)] at hj;exact h.e5 hj
theorem QJ.store11 {W1:World} {Ws:List (Value->World->Prop)} {q r:Int} (hst:∀r∈Ws,Sl r) (hlen:Ws.length<=8) (hW:Kl Ws 7=Dn r) {ops:Array Oper} {n:Nat} {a0:Act} {Q:Exit->Act->World->Prop} {o:Oper}
  (ho:o={ o with op:= .store 126 (.tmp 8) (.tmp 27),dst:=none }) (hs1:Db ops n 8=some 9) (hs2:Db ops n 27=some 7):Qh Tryz.prog ops n (QJ W1 Ws q r) a0 Q 11 o:=by
 intro a w σ L _ ht _ _ hi h
 have hop:o.op= .store 126 (.tmp 8) (.tmp 27):=by rw[ho]
 have hdst:o.dst=none:=by rw[ho]
 obtain⟨hl,hv⟩:=ht 8 9 (by rw[hop];simp[Op.operands]) hs1
 obtain⟨hl2,hv2⟩:=ht 27 7 (by rw[hop];simp[Op.operands]) hs2
 obtain⟨b,h1,h2,h3⟩:=h.e2 hl
 rw[hi] at h3
 have hcell:w.heap[b]?=some (.cells #[.bool false,.slice none 0 0] 126 (0,0)):=h3
 have hword:=h.words 7 hl2
 rw[hW] at hword
 obtain⟨g,mv,m,e1,hn,hz⟩:=hword
 obtain⟨A,c,rfl⟩:=hn.1.slice
 have hrun:(execOp a.eval o).run Tryz.prog w= .ok .skip ((w.setCell ⟨b,0,none⟩ (.bool g)).setCell ⟨b,1,none⟩ (.slice A (Bo m).length c)):=by
  obtain⟨c0,c1⟩:=Cb hcell
  have f0:=Ex hcell 0
  have f1:=Ex hcell 1
  have x1:a.tmps[8]?.getD undef= .pointer (some ⟨b,0,none⟩):=by rw[<-h1,<-hv];simp
  have x2:a.tmps[27]?.getD undef= .agg #[.bool g,.slice A (Bo m).length c]:=by rw[<-e1,<-hv2];simp
  clear hv hv2 h1 e1 h h2 h3 hcell hn hz ht ho hst hW
  unfold execOp
  rw[hop]
  go_simp
 unfold Oper.wp
 rw[hrun]
 refine⟨undef,by rw[hdst],Below.store2 h.below h2 _ _,λj hj=>?_,λhj=>?_,λhj=>?_,λhj hk=>?_,λhj=>?_,λhj=>?_⟩
 ·
  by_cases e:j=11
  · subst e;exact Sx (by omega) _ _
  ·
   simp only[if_neg e] at hj ⊢
   have hw:=h.words j hj
   unfold Kl at*
   rw[List.getD_eq_getElem?_getD] at*
   cases hx:Ws[j]? with
   |none=>trivial
   |some r'=>rw[hx] at hw;exact hst r' (List.mem_of_getElem? hx) _ _ _ _ _ _ _ _ _ hcell trivial trivial hw
 ·
  simp only[if_neg (show ¬8=11 by decide),if_neg (show ¬10=11 by decide)] at hj ⊢
  obtain⟨b',k1,k2,k3⟩:=h.e1 hj
  refine⟨b',k1,k2,k3.store hcell trivial trivial (λe=>?_) _ _⟩
  subst e
  exact h.e3 (by first|exact hj|exact hl) (by first|exact hl|exact hj) (by rw[h1,k1])
 ·
  simp only[if_neg (show ¬9=11 by decide),if_true] at hj ⊢
  exact⟨b,h1,h2,g,A,m,c,Ok hcell _ _,by rw[Gq];exact hn.store2 hcell trivial trivial _ _,hz⟩
 ·
  simp only[if_neg (show ¬8=11 by decide),if_neg (show ¬9=11 by decide)] at hj hk ⊢
  exact h.e3 hj hk
 ·
  simp only[if_neg (show ¬8=11 by decide)] at hj ⊢
  simp only[if_neg (show ¬10=11 by decide)] at hj;exact h.e4 hj
 ·
  simp only[if_neg (show ¬9=11 by decide)] at hj ⊢
  exact hl
def fO (w:World) (x y:Int) (e:Ending) (w':World):Prop:=e= .returned (.tuple #[Ai (x/y),Ai (x%y),.int .i64 0])/\Below w.heap.size w w'
theorem Aa1 (x y:Int) (w:World) (hx:Gh x) (hy:Gh y) (hy0:y≠0):Calls Tryz.prog 68 #[Ai x,Ai y] w (fO w x y):=by
 have HBT:=Lib.hid (λw=>Qy x y w hx hy)
 have hxb:=hx.bytes
 have hyb:=hy.bytes
 have HOX:=Lib.hid (λw=>Mo x _ w rfl (Nat.le_trans hxb (by decide)))
 have HOY:=Lib.hid (λw=>Mo y _ w rfl (Nat.le_trans hyb (by decide)))
 have HXD:=Lib.hid hx.digits
 have HYD:=Lib.hid hy.digits
 have HFQ:=Lib.hid (AaY (y:=y) hx)
 have HFR:=Lib.hid (Abm (x:=x) hy hy0)
 have hey:=dM (n:=y.natAbs)
 rw[show decide (y.natAbs=0)=false by simp[hy0]] at hey
 have HY0:=Lib.hid hy0
 clear hx hy hxb hyb hy0
 obtain⟨q,hq⟩:∃q,q=x/y:=⟨_,rfl⟩
 obtain⟨r,hr⟩:∃r,r=x%y:=⟨_,rfl⟩
 have HQ:=Lib.hid hq
 have HR:=Lib.hid hr
 unfold fO
 rw[<-hq] at HFQ ⊢
 rw[<-hr] at HFR ⊢
 clear hq hr
 unfold Ai at*
 obtain⟨ng,hng⟩:∃ng,ng=decide (x<0):=⟨_,rfl⟩
 obtain⟨s,hs⟩:∃s,s=Cw x.natAbs:=⟨_,rfl⟩
 obtain⟨mg,hmg⟩:∃mg,mg=decide (y<0):=⟨_,rfl⟩
 obtain⟨t,ht⟩:∃t,t=Cw y.natAbs:=⟨_,rfl⟩
 obtain⟨qg,hqg⟩:∃kg,kg=decide (q<0):=⟨_,rfl⟩
 obtain⟨qs,hqs⟩:∃u,u=Cw q.natAbs:=⟨_,rfl⟩
 obtain⟨rg,hrg⟩:∃kg,kg=decide (r<0):=⟨_,rfl⟩
 obtain⟨rs,hrs⟩:∃u,u=Cw r.natAbs:=⟨_,rfl⟩
 rw[<-hng,<-hs] at HBT HOX ⊢
 rw[<-hmg,<-ht] at HBT HOY ⊢
 rw[<-ht] at hey
 have HQV:Hid (Ai q= .agg #[.bool qg,.string qs]):=by unfold Hid Ai;rw[hqg,hqs]
 have HRV:Hid (Ai r= .agg #[.bool rg,.string rs]):=by unfold Hid Ai;rw[hrg,hrs]
 rw[<-hqg,<-hqs,<-hrg,<-hrs]
 clear hng hs hmg ht hqg hqs hrg hrs
 have HWQ:Hid (∀wa v,Jj v wa q->Calls Tryz.prog 89 #[v] wa λe w'=>e= .returned (.tuple #[.agg #[.bool qg,.string qs],.int .i64 0])/\Below wa.heap.size wa w'):=λwa v hv=>by
  have:=Oo q v wa hv (Nat.le_trans HFQ.out.digits (by decide))
  unfold qC at this
  rw[On HFQ.out,HQV.out] at this
  exact this
 have HWR:Hid (∀wa v,Jj v wa r->Calls Tryz.prog 89 #[v] wa λe w'=>e= .returned (.tuple #[.agg #[.bool rg,.string rs],.int .i64 0])/\Below wa.heap.size wa w'):=λwa v hv=>by
  have:=Oo r v wa hv (Nat.le_trans HFR.out.digits (by decide))
  unfold qC at this
  rw[On HFR.out,HRV.out] at this
  exact this
 obtain⟨W,hW⟩:∃W,W=(((w.alloc (.cells #[.bool ng,.string s] 96)).alloc (.cells #[.bool mg,.string t] 96)).alloc (.cells #[.bool false,.string ⟨#[]⟩] 96)).alloc (.cells #[.bool false,.string ⟨#[]⟩] 96):=⟨_,rfl⟩
 have h3:=kO w (.cells #[.bool ng,.string s] 96) (.cells #[.bool mg,.string t] 96) (.cells #[.bool false,.string ⟨#[]⟩] 96) (.cells #[.bool false,.string ⟨#[]⟩] 96)
 rw[<-hW] at h3
 have hsW:W.heap.size=w.heap.size+4:=by rw[hW];simp
 have HB:Hid (Below w.heap.size w W):=by unfold Hid;rw[hW];exact((((Below.refl _ _).alloc (Nat.le_refl _) _).alloc (by simp) _).alloc (by simp;omega) _).alloc (by simp;omega) _
 obtain⟨a0,a1⟩:=Cb h3.1
 obtain⟨b0,b1⟩:=Cb h3.2.1
 have HH:=Lib.hid h3
 clear h3
 go_enter func68,ntmps68
 go_upto_region 1 with fail
 rw[<-hW]
 clear hW
 go_wp2_with fail
 refine(HBT.out _).mono ?_
 rintro e w1 ⟨rfl,hb1⟩
 have HB1:Hid (Below w.heap.size w w1):=HB.out.trans (hb1.mono HB.out.size)
 have hs1:w.heap.size+4<=w1.heap.size:=by have:=hb1.size;omega
 have CW:Hid (∀wa,Below w1.heap.size w1 wa->wa.heap[w.heap.size]?=some (.cells #[.bool ng,.string s] 96 (0,0))/\wa.heap[w.heap.size+1]?=some (.cells #[.bool mg,.string t] 96 (0,0))/\wa.heap[w.heap.size+2]?=some (.cells #[.bool false,.string ⟨#[]⟩] 96 (0,0))/\wa.heap[w.heap.size+3]?=some (.cells #[.bool false,.string ⟨#[]⟩] 96 (0,0))):=λwa h=>by
  have hb:=hb1.trans (h.mono hb1.size)
  rw[hb.block _ (by omega),hb.block _ (by omega),hb.block _ (by omega),hb.block _ (by omega)]
  exact HH.out
 obtain⟨b0',b1'⟩:=Cb (CW.out w1 (Below.refl _ _)).2.1
 clear a0 a1 b0 b1 hb1 hsW HB HH
 have HDV:Hid (∀wa u v,Below w1.heap.size w1 wa->Dn x u wa->Dn y v wa->Calls Tryz.prog 88 #[u,v] wa λe w'=>∃v',e= .returned v'/\Below w1.heap.size w1 w'/\Below wa.heap.size wa w'/\Hn q r v' w'):=λwa u v hC hu hv=>by
  refine(mT x y u v wa hu hv (Nat.le_trans HXD.out (by decide)) (Nat.le_trans HYD.out (by decide)) HY0.out).mono ?_
  rintro e w' ⟨v1,v2,rfl,h1,h2,hb⟩
  rw[<-HQ.out] at h1
  rw[<-HR.out] at h2
  exact⟨_,rfl,hC.trans (hb.mono hC.size),hb,v1,v2,rfl,h1,h2⟩
 go_wp2_with fail
 clear b0' b1'
 have HST:Hid (∀r'∈[is (.agg #[.bool ng,.string s]),Dn x,is (.agg #[.bool mg,.string t]),Dn y,Hn q r,Hn q r,Dn q,Dn r],Id r'):=by
  unfold Hid
  simp only[List.mem_cons,List.mem_nil_iff,or_false,forall_eq_or_imp,forall_eq]
  exact⟨Aj _,En _,Aj _,En _,Vu _ _,Vu _ _,En _,En _⟩
 have HST2:Hid (∀r'∈[is (.agg #[.bool ng,.string s]),Dn x,is (.agg #[.bool mg,.string t]),Dn y,Hn q r,Hn q r,Dn q,Dn r],Sl r'):=by
  unfold Hid
  simp only[List.mem_cons,List.mem_nil_iff,or_false,forall_eq_or_imp,forall_eq]
  exact⟨aQ _,Ma _,aQ _,Ma _,To _ _,To _ _,Ma _,Ma _⟩
 refine iO 40 (QJ w1 [is (.agg #[.bool ng,.string s]),Dn x,is (.agg #[.bool mg,.string t]),Dn y,Hn q r,Hn q r,Dn q,Dn r] q r) (by kernel_rfl) (by kernel_rfl) rfl ?h0 ?hop ?hend
 case h0=>exact⟨(Below.refl _ _).drew,λj h=>by(cases h),λh=>by(cases h),λh=>by(cases h),λh=>by(cases h),λh=>by(cases h),λh=>by(cases h)⟩
 case hop=>
  refine⟨?_,?_,?_,?_,?_,?_,?_,?_,?_,?_,?_,?_,trivial⟩
  ·
   refine Ru (C:=λw'=>Below w1.heap.size w1 w') (R:=Kl [is (.agg #[.bool ng,.string s]),Dn x,is (.agg #[.bool mg,.string t]),Dn y,Hn q r,Hn q r,Dn q,Dn r]) (λ_ _ _ h=>h.below) (λ_ _ _ j h hj=>h.words j hj) (QJ.plain HST.out (i:=0) (by decide)) ?_
   exact Cf 96 (.tmp 2) (.pointer (some ⟨w.heap.size,0,none⟩)) (.agg #[.bool ng,.string s]) rfl (by kernel_rfl) (λwa hC=>Eu [.bool ng,.string s] wa (by kernel_rfl) (by kernel_rfl) (Lo (CW.out wa hC).1)) rfl
  ·
   refine Ru (C:=λw'=>Below w1.heap.size w1 w') (R:=Kl [is (.agg #[.bool ng,.string s]),Dn x,is (.agg #[.bool mg,.string t]),Dn y,Hn q r,Hn q r,Dn q,Dn r]) (λ_ _ _ h=>h.below) (λ_ _ _ j h hj=>h.words j hj) (QJ.plain HST.out (i:=1) (by decide)) ?_
   exact Dc 67 [.tmp 21] _ [.agg #[.bool ng,.string s]] rfl (λ_ _=>by kernel_rfl) ⟨by kernel_rfl,trivial⟩ (λwa hC=>(HOX.out wa).mono λ_ _ h=>h.word hC)
  ·
   refine Ru (C:=λw'=>Below w1.heap.size w1 w') (R:=Kl [is (.agg #[.bool ng,.string s]),Dn x,is (.agg #[.bool mg,.string t]),Dn y,Hn q r,Hn q r,Dn q,Dn r]) (λ_ _ _ h=>h.below) (λ_ _ _ j h hj=>h.words j hj) (QJ.plain HST.out (i:=2) (by decide)) ?_
   exact Cf 96 (.tmp 3) (.pointer (some ⟨w.heap.size+1,0,none⟩)) (.agg #[.bool mg,.string t]) rfl (by kernel_rfl) (λwa hC=>Eu [.bool mg,.string t] wa (by kernel_rfl) (by kernel_rfl) (Lo (CW.out wa hC).2.1)) rfl
  ·
   refine Ru (C:=λw'=>Below w1.heap.size w1 w') (R:=Kl [is (.agg #[.bool ng,.string s]),Dn x,is (.agg #[.bool mg,.string t]),Dn y,Hn q r,Hn q r,Dn q,Dn r]) (λ_ _ _ h=>h.below) (λ_ _ _ j h hj=>h.words j hj) (QJ.plain HST.out (i:=3) (by decide)) ?_
   exact Dc 67 [.tmp 23] _ [.agg #[.bool mg,.string t]] rfl (λ_ _=>by kernel_rfl) ⟨by kernel_rfl,trivial⟩ (λwa hC=>(HOY.out wa).mono λ_ _ h=>h.word hC)
  ·
   refine Ru (C:=λw'=>Below w1.heap.size w1 w') (R:=Kl [is (.agg #[.bool ng,.string s]),Dn x,is (.agg #[.bool mg,.string t]),Dn y,Hn q r,Hn q r,Dn q,Dn r]) (λ_ _ _ h=>h.below) (λ_ _ _ j h hj=>h.words j hj) (QJ.plain HST.out (i:=4) (by decide)) ?_
   exact Og 88 (.tmp 22) (.tmp 24) _ (Dn x) (Dn y) rfl (λ_ _=>by kernel_rfl) (by kernel_rfl) (by kernel_rfl) HDV.out
  ·
   refine Ru (C:=λw'=>Below w1.heap.size w1 w') (R:=Kl [is (.agg #[.bool ng,.string s]),Dn x,is (.agg #[.bool mg,.string t]),Dn y,Hn q r,Hn q r,Dn q,Dn r]) (λ_ _ _ h=>h.below) (λ_ _ _ j h hj=>h.words j hj) (QJ.plain HST.out (i:=5) (by decide)) ?_
   exact Dw (.tmp 25) (Hn q r) rfl (by kernel_rfl) (λ_ _ _ h=>h)
  ·
   refine Ru (C:=λw'=>Below w1.heap.size w1 w') (R:=Kl [is (.agg #[.bool ng,.string s]),Dn x,is (.agg #[.bool mg,.string t]),Dn y,Hn q r,Hn q r,Dn q,Dn r]) (λ_ _ _ h=>h.below) (λ_ _ _ j h hj=>h.words j hj) (QJ.plain HST.out (i:=6) (by decide)) ?_
   refine He λa wa hC hpre=>?_
   have h1:Hn q r (a.eval (.tmp 20)) wa:=hpre (.tmp 20) (by simp[Op.operands])
   generalize hv:a.eval (.tmp 20)=v at*
   obtain⟨v1,v2,rfl,hh1,hh2⟩:=h1
   have e1:a.tmps[20]?.getD undef= .tuple #[v1,v2]:=by simpa [Act.eval] using hv
   clear hpre
   refine⟨v1,?_,hh1⟩
   clear hh1 hh2
   go_simp
  ·
   refine Ru (C:=λw'=>Below w1.heap.size w1 w') (R:=Kl [is (.agg #[.bool ng,.string s]),Dn x,is (.agg #[.bool mg,.string t]),Dn y,Hn q r,Hn q r,Dn q,Dn r]) (λ_ _ _ h=>h.below) (λ_ _ _ j h hj=>h.words j hj) (QJ.plain HST.out (i:=7) (by decide)) ?_
   refine He λa wa hC hpre=>?_
   have h1:Hn q r (a.eval (.tmp 20)) wa:=hpre (.tmp 20) (by simp[Op.operands])
   generalize hv:a.eval (.tmp 20)=v at*
   obtain⟨v1,v2,rfl,hh1,hh2⟩:=h1
   have e1:a.tmps[20]?.getD undef= .tuple #[v1,v2]:=by simpa [Act.eval] using hv
   clear hpre
   refine⟨v2,?_,hh2⟩
   clear hh1 hh2
   go_simp
  · exact QJ.alloc8 HST.out (by simp) (λa w=>by go_simp)
  · exact QJ.alloc9 HST.out (by simp) (λa w=>by go_simp)
  · exact QJ.store10 HST2.out (by simp) rfl rfl (by kernel_rfl) (by kernel_rfl)
  · exact QJ.store11 HST2.out (by simp) rfl rfl (by kernel_rfl) (by kernel_rfl)
 case hend=>
 intro τ L w2 hL hJ
 obtain⟨bx,hx8,hbx,hcx⟩:=hJ.e1 (hL 8 (by decide))
 obtain⟨bY,hx9,hbY,hcy⟩:=hJ.e2 (hL 9 (by decide))
 have hne:=hJ.e3 (hL 8 (by decide)) (hL 9 (by decide))
 rw[hL 10 (by decide)] at hcx
 rw[hL 11 (by decide)] at hcy
 rw[hx8,hx9] at hne
 have hbne:bx≠bY:=λe=>hne (by rw[e])
 simp only[List.length_cons,List.length_nil,Nat.zero_add,Nat.reduceAdd,Ch,List.getElem?_toArray,List.getElem?_cons_succ,List.getElem?_cons_zero,Option.bind_some,Act.put,List.setIfInBounds_toArray,List.set_cons_succ,List.set_cons_zero,List.drop_succ_cons,List.drop_zero,hx8,hx9]
 have HB2:=Lib.hid hJ.below
 clear hne hL hJ hx8 hx9
 obtain⟨g1,A1,n1,c1,x1,x2,x3⟩:∃g A n c,w2.heap[bx]?=some (.cells #[.bool g,.slice A (Bo n).length c] 126 (0,0))/\Cg w2 0 w2.heap.size (.slice A (Bo n).length c) n/\It g n=q:=hcx
 obtain⟨g2,A2,n2,c2,y1,y2,y3⟩:∃g A n c,w2.heap[bY]?=some (.cells #[.bool g,.slice A (Bo n).length c] 126 (0,0))/\Cg w2 0 w2.heap.size (.slice A (Bo n).length c) n/\It g n=r:=hcy
 have HN1:Hid (Jj (.agg #[.bool g1,.slice A1 (Bo n1).length c1]) w2 q):=⟨g1,_,n1,rfl,x2,x3⟩
 have HN2:Hid (Jj (.agg #[.bool g2,.slice A2 (Bo n2).length c2]) w2 r):=⟨g2,_,n2,rfl,y2,y3⟩
 have HY1:=Lib.hid y1
 obtain⟨p0,p1⟩:=Cb x1
 obtain⟨_,_,d2,d3⟩:=CW.out w2 HB2.out
 have HD2:=Lib.hid d2
 have HD3:=Lib.hid d3
 have hs2:w.heap.size+4<=w2.heap.size:=by have:=HB2.out.size;omega
 have hyl:bY<w2.heap.size:=(Array.getElem?_eq_some_iff.1 y1).1
 have HBW2:Hid (Below w.heap.size w w2):=HB1.out.trans (HB2.out.mono HB1.out.size)
 clear x1 x2 x3 y1 y2 y3 d2 d3 CW HB2
 go_wp2_with fail
 refine(HWQ.out _ _ HN1.out).mono ?_
 rintro e w3 ⟨rfl,hb3⟩
 have HBW3:Hid (Below w.heap.size w w3):=HBW2.out.trans (hb3.mono (by omega))
 have k2:=(hb3.block (w.heap.size+2) (by omega)).trans HD2.out
 have k3:=(hb3.block (w.heap.size+3) (by omega)).trans HD3.out
 have kY:=(hb3.block bY hyl).trans HY1.out
 have HN23:Hid (Jj (.agg #[.bool g2,.slice A2 (Bo n2).length c2]) w3 r):=HN2.out.up hb3
 have hs3:w.heap.size+4<=w3.heap.size:=by have:=hb3.size;omega
 obtain⟨c0,c1'⟩:=Cb k2
 have f0:=Ex k2 0
 have f1:=Ex k2 1
 have HK2:=Lib.hid k2
 have HK3:=Lib.hid k3
 have HKY:=Lib.hid kY
 have hY4:((w3.setCell ⟨w.heap.size+1+1,0,none⟩ (.bool qg)).setCell ⟨w.heap.size+1+1,1,none⟩ (.string qs)).heap[bY]?=some (.cells #[.bool g2,.slice A2 (Bo n2).length c2] 126 (0,0)):=(Gl _ _ (by omega)).trans kY
 obtain⟨z0,z1⟩:=Cb hY4
 clear p0 p1 hb3 k2 k3 kY HN1 HN2 HY1 HD2 HD3 hY4
 go_wp2_with fail
 obtain⟨w4,hw4⟩:∃w4,w4=(w3.setCell ⟨w.heap.size+1+1,0,none⟩ (.bool qg)).setCell ⟨w.heap.size+1+1,1,none⟩ (.string qs):=⟨_,rfl⟩
 rw[<-hw4]
 have HN24:Hid (Jj (.agg #[.bool g2,.slice A2 (Bo n2).length c2]) w4 r):=by unfold Hid;rw[hw4];exact HN23.out.store2 HK2.out trivial trivial _ _
 have HK24:Hid (w4.heap[w.heap.size+2]?=some (.cells #[.bool qg,.string qs] 96 (0,0))):=by unfold Hid;rw[hw4];exact Ok HK2.out _ _
 have HK34:Hid (w4.heap[w.heap.size+3]?=some (.cells #[.bool false,.string ⟨#[]⟩] 96 (0,0))):=by unfold Hid;rw[hw4];exact(Gl _ _ (by omega)).trans HK3.out
 have HB4:Hid (Below w.heap.size w w4):=by unfold Hid;rw[hw4];exact Below.store2 HBW3.out (by omega) _ _
 have hs4:w.heap.size+4<=w4.heap.size:=by rw[hw4,Gq];exact hs3
 clear hw4 z0 z1 c0 c1' f0 f1 HK2 HK3 HKY HN23 HBW3
 refine(HWR.out _ _ HN24.out).mono ?_
 rintro e w5 ⟨rfl,hb5⟩
 have HB5:Hid (Below w.heap.size w w5):=HB4.out.trans (hb5.mono (by omega))
 have k2:=(hb5.block (w.heap.size+2) (by omega)).trans HK24.out
 have k3:=(hb5.block (w.heap.size+3) (by omega)).trans HK34.out
 obtain⟨c0,c1'⟩:=Cb k3
 have f0:=Ex k3 0
 have f1:=Ex k3 1
 have HK25:=Lib.hid k2
 have HK35:=Lib.hid k3
 clear hb5 k2 k3 HN24 HK24 HK34
 go_upto_region 8 with fail
 obtain⟨w6,hw6⟩:∃w6,w6=(w5.setCell ⟨w.heap.size+1+1+1,0,none⟩ (.bool rg)).setCell ⟨w.heap.size+1+1+1,1,none⟩ (.string rs):=⟨_,rfl⟩
 rw[<-hw6]
 have k2:w6.heap[w.heap.size+1+1]?=some (.cells #[.bool qg,.string qs] 96 (0,0)):=by rw[hw6];exact(Gl _ _ (by omega)).trans HK25.out
 have k3:w6.heap[w.heap.size+1+1+1]?=some (.cells #[.bool rg,.string rs] 96 (0,0)):=by rw[hw6];exact Ok HK35.out _ _
 have HB6:Hid (Below w.heap.size w w6):=by unfold Hid;rw[hw6];exact Below.store2 HB5.out (by omega) _ _
 clear hw6 c0 c1' f0 f1 HK25 HK35 HB5
 obtain⟨c0,c1'⟩:=Cb k2
 obtain⟨c2',c3⟩:=Cb k3
 have f0:=Ex k2 0
 have f1:=Ex k2 1
 have f2:=Ex k3 0
 have f3:=Ex k3 1
 have HK2:=Lib.hid k2
 have HK3:=Lib.hid k3
 clear k2 k3
 go_region
 obtain⟨w7,hw7⟩:∃w7,w7=(((w6.setCell ⟨w.heap.size+1+1,0,none⟩ (.bool qg)).setCell ⟨w.heap.size+1+1,1,none⟩ (.string qs)).setCell ⟨w.heap.size+1+1+1,0,none⟩ (.bool rg)).setCell ⟨w.heap.size+1+1+1,1,none⟩ (.string rs):=⟨_,rfl⟩
 rw[<-hw7]
 obtain⟨p0,p1,p2,p3⟩:w7.cell? ⟨w.heap.size+1+1,0,none⟩=some (.bool qg)/\w7.cell? ⟨w.heap.size+1+1,1,none⟩=some (.string qs)/\w7.cell? ⟨w.heap.size+1+1+1,0,none⟩=some (.bool rg)/\w7.cell? ⟨w.heap.size+1+1+1,1,none⟩=some (.string rs):=by
  rw[hw7];exact Wa (by omega) c0 c1' c2' c3
 have HB7:Hid (Below w.heap.size w w7.drew):=by unfold Hid;rw[hw7];exact(Below.store2 (Below.store2 HB6.out (by omega) _ _) (by omega) _ _).drew
 clear hw7
 go_wp2_with fail
 refine bodyPost_ret (v:= .tuple #[.agg #[.bool qg,.string qs],.agg #[.bool rg,.string rs],.int .i64 0]) (by simp[results,results68,go_sem,p0,p1,p2,p3]) rfl ?_
 exact⟨rfl,HB7.out⟩
theorem lZ (x y:Int) (w:World) (hx:Gh x) (hy:Gh y) (hr:Gh (x+y)):Calls Tryz.prog 49 #[Ai x,Ai y] w λe w'=>e= .returned (Ai (x+y))/\Below w.heap.size w w':=by
 obtain⟨z,hz⟩:∃z,z=x+y:=⟨_,rfl⟩
 skip
 have HOP:Hid (∀wa,Calls Tryz.prog 69 #[Ai x,Ai y] wa λe w'=>e= .returned (.tuple #[Ai (x+y),.int .i64 0])/\Below wa.heap.size wa w'):=λwa=>by
  have:=mL x y wa hx hy hr
  skip
  exact this
 rw[<-hz] at HOP ⊢
 clear hx hy hr hz
 unfold Ai at*
 obtain⟨ng,hng⟩:∃ng,ng=decide (x<0):=⟨_,rfl⟩
 obtain⟨s,hs⟩:∃s,s=Cw x.natAbs:=⟨_,rfl⟩
 obtain⟨mg,hmg⟩:∃mg,mg=decide (y<0):=⟨_,rfl⟩
 obtain⟨t,ht⟩:∃t,t=Cw y.natAbs:=⟨_,rfl⟩
 obtain⟨kg,hkg⟩:∃kg,kg=decide (z<0):=⟨_,rfl⟩
 obtain⟨u,hu⟩:∃u,u=Cw z.natAbs:=⟨_,rfl⟩
 rw[<-hng,<-hs,<-hmg,<-ht,<-hkg,<-hu] at HOP
 rw[<-hng,<-hs,<-hmg,<-ht,<-hkg,<-hu]
 clear hng hs hmg ht hkg hu
 obtain⟨W,hW⟩:∃W,W=((w.alloc (.cells #[.bool ng,.string s] 96)).alloc (.cells #[.bool mg,.string t] 96)).alloc (.cells #[.bool false,.string ⟨#[]⟩] 96):=⟨_,rfl⟩
 have h3:=Im w (.cells #[.bool ng,.string s] 96) (.cells #[.bool mg,.string t] 96) (.cells #[.bool false,.string ⟨#[]⟩] 96)
 rw[<-hW] at h3
 have hsW:W.heap.size=w.heap.size+3:=by rw[hW];simp
 have HB:Hid (Below w.heap.size w W):=by unfold Hid;rw[hW];exact(((Below.refl _ _).alloc (Nat.le_refl _) _).alloc (by simp) _).alloc (by simp;omega) _
 obtain⟨a0,a1⟩:=Cb h3.1
 obtain⟨b0,b1⟩:=Cb h3.2.1
 have HH:=Lib.hid h3.2.2
 clear h3
 go_enter func49,ntmps49
 go_upto_region 1 with fail
 rw[<-hW]
 clear hW
 go_wp2_with fail
 refine(HOP.out _).mono ?_
 rintro e w1 ⟨rfl,hb1⟩
 have HB1:Hid (Below w.heap.size w w1):=HB.out.trans (hb1.mono HB.out.size)
 have hs1:w.heap.size+3<=w1.heap.size:=by have:=hb1.size;omega
 have hw3:(w1.alloc (.cells #[.bool kg,.string u] 96)).heap[w.heap.size+2]?=some (.cells #[.bool false,.string ⟨#[]⟩] 96 (0,0)):=(Below.heap_alloc _ _ _ (by omega)).trans ((hb1.block _ (by omega)).trans HH.out)
 obtain⟨c0,c1⟩:=Cb hw3
 have f0:=Ex hw3 0
 have f1:=Ex hw3 1
 clear hb1 hw3 a0 a1 b0 b1 HB HH hsW
 go_wp2_with fail
 obtain⟨w4,hw4⟩:∃w4,w4=((w1.alloc (.cells #[.bool kg,.string u] 96)).setCell ⟨w.heap.size+2,0,none⟩ (.bool kg)).setCell ⟨w.heap.size+2,1,none⟩ (.string u):=⟨_,rfl⟩
 rw[<-hw4]
 obtain⟨k0,k1⟩:w4.cell? ⟨w.heap.size+2,0,none⟩=some (.bool kg)/\w4.cell? ⟨w.heap.size+2,1,none⟩=some (.string u):=by
  rw[hw4];exact Fu c0 c1
 refine bodyPost_ret (v:= .agg #[.bool kg,.string u]) (by simp[results,results49,go_sem,k0,k1]) rfl ?_
 refine⟨rfl,?_⟩
 rw[hw4]
 exact Below.store2 (HB1.out.alloc (by omega) _) (by omega) _ _
theorem Wb (x y:Int) (w:World) (hx:Gh x) (hy:Gh y) (hr:Gh (x*y)):Calls Tryz.prog 78 #[Ai x,Ai y] w λe w'=>e= .returned (Ai (x*y))/\Below w.heap.size w w':=by
 obtain⟨z,hz⟩:∃z,z=x*y:=⟨_,rfl⟩
 skip
 have HOP:Hid (∀wa,Calls Tryz.prog 100 #[Ai x,Ai y] wa λe w'=>e= .returned (.tuple #[Ai (x*y),.int .i64 0])/\Below wa.heap.size wa w'):=λwa=>by
  have:=mO x y wa hx hy hr
  skip
  exact this
 rw[<-hz] at HOP ⊢
 clear hx hy hr hz
 unfold Ai at*
 obtain⟨ng,hng⟩:∃ng,ng=decide (x<0):=⟨_,rfl⟩
 obtain⟨s,hs⟩:∃s,s=Cw x.natAbs:=⟨_,rfl⟩
 obtain⟨mg,hmg⟩:∃mg,mg=decide (y<0):=⟨_,rfl⟩
 obtain⟨t,ht⟩:∃t,t=Cw y.natAbs:=⟨_,rfl⟩
 obtain⟨kg,hkg⟩:∃kg,kg=decide (z<0):=⟨_,rfl⟩
 obtain⟨u,hu⟩:∃u,u=Cw z.natAbs:=⟨_,rfl⟩
 rw[<-hng,<-hs,<-hmg,<-ht,<-hkg,<-hu] at HOP
 rw[<-hng,<-hs,<-hmg,<-ht,<-hkg,<-hu]
 clear hng hs hmg ht hkg hu
 obtain⟨W,hW⟩:∃W,W=((w.alloc (.cells #[.bool ng,.string s] 96)).alloc (.cells #[.bool mg,.string t] 96)).alloc (.cells #[.bool false,.string ⟨#[]⟩] 96):=⟨_,rfl⟩
 have h3:=Im w (.cells #[.bool ng,.string s] 96) (.cells #[.bool mg,.string t] 96) (.cells #[.bool false,.string ⟨#[]⟩] 96)
 rw[<-hW] at h3
 have hsW:W.heap.size=w.heap.size+3:=by rw[hW];simp
 have HB:Hid (Below w.heap.size w W):=by unfold Hid;rw[hW];exact(((Below.refl _ _).alloc (Nat.le_refl _) _).alloc (by simp) _).alloc (by simp;omega) _
 obtain⟨a0,a1⟩:=Cb h3.1
 obtain⟨b0,b1⟩:=Cb h3.2.1
 have HH:=Lib.hid h3.2.2
 clear h3
 go_enter func78,ntmps78
 go_upto_region 1 with fail
 rw[<-hW]
 clear hW
 go_wp2_with fail
 refine(HOP.out _).mono ?_
 rintro e w1 ⟨rfl,hb1⟩
 have HB1:Hid (Below w.heap.size w w1):=HB.out.trans (hb1.mono HB.out.size)
 have hs1:w.heap.size+3<=w1.heap.size:=by have:=hb1.size;omega
 have hw3:(w1.alloc (.cells #[.bool kg,.string u] 96)).heap[w.heap.size+2]?=some (.cells #[.bool false,.string ⟨#[]⟩] 96 (0,0)):=(Below.heap_alloc _ _ _ (by omega)).trans ((hb1.block _ (by omega)).trans HH.out)
 obtain⟨c0,c1⟩:=Cb hw3
 have f0:=Ex hw3 0
 have f1:=Ex hw3 1
 clear hb1 hw3 a0 a1 b0 b1 HB HH hsW
 go_wp2_with fail
 obtain⟨w4,hw4⟩:∃w4,w4=((w1.alloc (.cells #[.bool kg,.string u] 96)).setCell ⟨w.heap.size+2,0,none⟩ (.bool kg)).setCell ⟨w.heap.size+2,1,none⟩ (.string u):=⟨_,rfl⟩
 rw[<-hw4]
 obtain⟨k0,k1⟩:w4.cell? ⟨w.heap.size+2,0,none⟩=some (.bool kg)/\w4.cell? ⟨w.heap.size+2,1,none⟩=some (.string u):=by
  rw[hw4];exact Fu c0 c1
 refine bodyPost_ret (v:= .agg #[.bool kg,.string u]) (by simp[results,results78,go_sem,k0,k1]) rfl ?_
 refine⟨rfl,?_⟩
 rw[hw4]
 exact Below.store2 (HB1.out.alloc (by omega) _) (by omega) _ _
theorem mA (x y:Int) (w:World) (hx:Gh x) (hy:Gh y):Calls Tryz.prog 85 #[Ai x,Ai y] w λe w'=>e= .returned (Ai (Nat.gcd x.natAbs y.natAbs:Int))/\Below w.heap.size w w':=by
 obtain⟨z,hz⟩:∃z,z=(Nat.gcd x.natAbs y.natAbs:Int):=⟨_,rfl⟩
 skip
 have HOP:Hid (∀wa,Calls Tryz.prog 102 #[Ai x,Ai y] wa λe w'=>e= .returned (.tuple #[Ai (Nat.gcd x.natAbs y.natAbs:Int),.int .i64 0])/\Below wa.heap.size wa w'):=λwa=>by
  have:=Aaz x y wa hx hy
  skip
  exact this
 rw[<-hz] at HOP ⊢
 clear hx hy hz
 unfold Ai at*
 obtain⟨ng,hng⟩:∃ng,ng=decide (x<0):=⟨_,rfl⟩
 obtain⟨s,hs⟩:∃s,s=Cw x.natAbs:=⟨_,rfl⟩
 obtain⟨mg,hmg⟩:∃mg,mg=decide (y<0):=⟨_,rfl⟩
 obtain⟨t,ht⟩:∃t,t=Cw y.natAbs:=⟨_,rfl⟩
 obtain⟨kg,hkg⟩:∃kg,kg=decide (z<0):=⟨_,rfl⟩
 obtain⟨u,hu⟩:∃u,u=Cw z.natAbs:=⟨_,rfl⟩
 rw[<-hng,<-hs,<-hmg,<-ht,<-hkg,<-hu] at HOP
 rw[<-hng,<-hs,<-hmg,<-ht,<-hkg,<-hu]
 clear hng hs hmg ht hkg hu
 obtain⟨W,hW⟩:∃W,W=((w.alloc (.cells #[.bool ng,.string s] 96)).alloc (.cells #[.bool mg,.string t] 96)).alloc (.cells #[.bool false,.string ⟨#[]⟩] 96):=⟨_,rfl⟩
 have h3:=Im w (.cells #[.bool ng,.string s] 96) (.cells #[.bool mg,.string t] 96) (.cells #[.bool false,.string ⟨#[]⟩] 96)
 rw[<-hW] at h3
 have hsW:W.heap.size=w.heap.size+3:=by rw[hW];simp
 have HB:Hid (Below w.heap.size w W):=by unfold Hid;rw[hW];exact(((Below.refl _ _).alloc (Nat.le_refl _) _).alloc (by simp) _).alloc (by simp;omega) _
 obtain⟨a0,a1⟩:=Cb h3.1
 obtain⟨b0,b1⟩:=Cb h3.2.1
 have HH:=Lib.hid h3.2.2
 clear h3
 go_enter func85,ntmps85
 go_upto_region 1 with fail
 rw[<-hW]
 clear hW
 go_wp2_with fail
 refine(HOP.out _).mono ?_
 rintro e w1 ⟨rfl,hb1⟩
 have HB1:Hid (Below w.heap.size w w1):=HB.out.trans (hb1.mono HB.out.size)
 have hs1:w.heap.size+3<=w1.heap.size:=by have:=hb1.size;omega
 have hw3:(w1.alloc (.cells #[.bool kg,.string u] 96)).heap[w.heap.size+2]?=some (.cells #[.bool false,.string ⟨#[]⟩] 96 (0,0)):=(Below.heap_alloc _ _ _ (by omega)).trans ((hb1.block _ (by omega)).trans HH.out)
 obtain⟨c0,c1⟩:=Cb hw3
 have f0:=Ex hw3 0
 have f1:=Ex hw3 1
 clear hb1 hw3 a0 a1 b0 b1 HB HH hsW
 go_wp2_with fail
 obtain⟨w4,hw4⟩:∃w4,w4=((w1.alloc (.cells #[.bool kg,.string u] 96)).setCell ⟨w.heap.size+2,0,none⟩ (.bool kg)).setCell ⟨w.heap.size+2,1,none⟩ (.string u):=⟨_,rfl⟩
 rw[<-hw4]
 obtain⟨k0,k1⟩:w4.cell? ⟨w.heap.size+2,0,none⟩=some (.bool kg)/\w4.cell? ⟨w.heap.size+2,1,none⟩=some (.string u):=by
  rw[hw4];exact Fu c0 c1
 refine bodyPost_ret (v:= .agg #[.bool kg,.string u]) (by simp[results,results85,go_sem,k0,k1]) rfl ?_
 refine⟨rfl,?_⟩
 rw[hw4]
 exact Below.store2 (HB1.out.alloc (by omega) _) (by omega) _ _
theorem Aam (x y:Int) (w:World) (hx:Gh x) (hy:Gh y) (h0:y≠0):Calls Tryz.prog 48 #[Ai x,Ai y] w λe w'=>e= .returned (Ai (x/y))/\Below w.heap.size w w':=by
 obtain⟨z,hz⟩:∃z,z=x/y:=⟨_,rfl⟩
 obtain⟨rg,rs,hVR⟩:∃rg rs,Ai (x%y)= .agg #[.bool rg,.string rs]:=⟨_,_,rfl⟩
 have HOP:Hid (∀wa,Calls Tryz.prog 68 #[Ai x,Ai y] wa λe w'=>e= .returned (.tuple #[Ai (x/y),.agg #[.bool rg,.string rs],.int .i64 0])/\Below wa.heap.size wa w'):=λwa=>by
  have:=Aa1 x y wa hx hy h0
  unfold fO at this
  rw[hVR] at this
  exact this
 rw[<-hz] at HOP ⊢
 clear hx hy h0 hVR hz
 unfold Ai at*
 obtain⟨ng,hng⟩:∃ng,ng=decide (x<0):=⟨_,rfl⟩
 obtain⟨s,hs⟩:∃s,s=Cw x.natAbs:=⟨_,rfl⟩
 obtain⟨mg,hmg⟩:∃mg,mg=decide (y<0):=⟨_,rfl⟩
 obtain⟨t,ht⟩:∃t,t=Cw y.natAbs:=⟨_,rfl⟩
 obtain⟨kg,hkg⟩:∃kg,kg=decide (z<0):=⟨_,rfl⟩
 obtain⟨u,hu⟩:∃u,u=Cw z.natAbs:=⟨_,rfl⟩
 rw[<-hng,<-hs,<-hmg,<-ht,<-hkg,<-hu] at HOP
 rw[<-hng,<-hs,<-hmg,<-ht,<-hkg,<-hu]
 clear hng hs hmg ht hkg hu
 obtain⟨W,hW⟩:∃W,W=((w.alloc (.cells #[.bool ng,.string s] 96)).alloc (.cells #[.bool mg,.string t] 96)).alloc (.cells #[.bool false,.string ⟨#[]⟩] 96):=⟨_,rfl⟩
 have h3:=Im w (.cells #[.bool ng,.string s] 96) (.cells #[.bool mg,.string t] 96) (.cells #[.bool false,.string ⟨#[]⟩] 96)
 rw[<-hW] at h3
 have hsW:W.heap.size=w.heap.size+3:=by rw[hW];simp
 have HB:Hid (Below w.heap.size w W):=by unfold Hid;rw[hW];exact(((Below.refl _ _).alloc (Nat.le_refl _) _).alloc (by simp) _).alloc (by simp;omega) _
 obtain⟨a0,a1⟩:=Cb h3.1
 obtain⟨b0,b1⟩:=Cb h3.2.1
 have HH:=Lib.hid h3.2.2
 clear h3
 go_enter func48,ntmps48
 go_upto_region 1 with fail
 rw[<-hW]
 clear hW
 go_wp2_with fail
 refine(HOP.out _).mono ?_
 rintro e w1 ⟨rfl,hb1⟩
 have HB1:Hid (Below w.heap.size w w1):=HB.out.trans (hb1.mono HB.out.size)
 have hs1:w.heap.size+3<=w1.heap.size:=by have:=hb1.size;omega
 have hw3:((w1.alloc (.cells #[.bool kg,.string u] 96)).alloc (.cells #[.bool rg,.string rs] 96)).heap[w.heap.size+2]?=some (.cells #[.bool false,.string ⟨#[]⟩] 96 (0,0)):=(Below.heap_alloc _ _ _ (by simp;omega)).trans ((Below.heap_alloc _ _ _ (by omega)).trans ((hb1.block _ (by omega)).trans HH.out))
 obtain⟨c0,c1⟩:=Cb hw3
 have f0:=Ex hw3 0
 have f1:=Ex hw3 1
 clear hb1 hw3 a0 a1 b0 b1 HB HH hsW
 go_wp2_with fail
 obtain⟨w4,hw4⟩:∃w4,w4=(((w1.alloc (.cells #[.bool kg,.string u] 96)).alloc (.cells #[.bool rg,.string rs] 96)).setCell ⟨w.heap.size+2,0,none⟩ (.bool kg)).setCell ⟨w.heap.size+2,1,none⟩ (.string u):=⟨_,rfl⟩
 rw[<-hw4]
 obtain⟨k0,k1⟩:w4.cell? ⟨w.heap.size+2,0,none⟩=some (.bool kg)/\w4.cell? ⟨w.heap.size+2,1,none⟩=some (.string u):=by
  rw[hw4];exact Fu c0 c1
 refine bodyPost_ret (v:= .agg #[.bool kg,.string u]) (by simp[results,results48,go_sem,k0,k1]) rfl ?_
 refine⟨rfl,?_⟩
 rw[hw4]
 exact Below.store2 ((HB1.out.alloc (by omega) _).alloc (by simp;omega) _) (by omega) _ _
end Go.Proofs.YtkcnbaeoahoglaaGreat
namespace Go.Proofs.YtkcnbaeoahoglaaGreat
open Tryz
open Go.RowKit
def Le (w:World) (b:Nat) (z:Int):Prop:=w.heap[b]?=some (.cells #[.bool (decide (z<0)),.string (Cw z.natAbs)] 96 (0,0))
theorem Le.cells {w:World} {b:Nat} {z:Int} (h:Le w b z):w.cell? ⟨b,0,none⟩=some (.bool (decide (z<0)))/\w.cell? ⟨b,1,none⟩=some (.string (Cw z.natAbs)):=Cb h
theorem Le.lt {w:World} {b:Nat} {z:Int} (h:Le w b z):b<w.heap.size:=(Array.getElem?_eq_some_iff.1 h).1
theorem Le.up {w w':World} {b B:Nat} {z:Int} (h:Le w b z) (hb:Below B w w') (hl:b<B):Le w' b z:=(hb.block b hl).trans h
theorem Le.store {w:World} {b:Nat} {z:Int} (h:Le w b z) (y:Int):Le ((w.setCell ⟨b,0,none⟩ (.bool (decide (y<0)))).setCell ⟨b,1,none⟩ (.string (Cw y.natAbs))) b y:=Ok h _ _
theorem Le.new (w:World) (z:Int):Le (w.alloc (.cells #[.bool (decide (z<0)),.string (Cw z.natAbs)] 96)) w.heap.size z:=heap_alloc_new w _
structure Acm (w:World) (n:Int) (bo:Nat) (i:Nat) (wr:World):Prop where
 out:Le wr bo (n^i)
 res:wr.heap[w.heap.size]?=some (.cells #[.bool false,.string ⟨#[]⟩] 96 (0,0))
 below:Below w.heap.size w wr
theorem uV (n:Int) (k:Nat) (w:World) (h0: -9223372036854775808<=n) (h1:n<=9223372036854775807) (hk:k<=1000) (hf:∀j,j<=k->Gh (n^j)):
  Calls Tryz.prog 80 #[.int .i64 n,.int .i64 (k:Int)] w λe w'=>e= .returned (Ai (n^k))/\Below w.heap.size w w':=by
 have HOF:=Lib.hid (λw=>Ld n w h0 h1)
 have HO1:=Lib.hid (λw=>Ld 1 w (by decide) (by decide))
 have HF:=Lib.hid hf
 have hf1:Gh n:=Jn h0 h1
 have HF1:=Lib.hid hf1
 clear h0 h1 hf hf1
 obtain⟨W,hW⟩:∃W,W=w.alloc (.cells #[.bool false,.string ⟨#[]⟩] 96):=⟨_,rfl⟩
 have hh:W.heap[w.heap.size]?=some (.cells #[.bool false,.string ⟨#[]⟩] 96 (0,0)):=by rw[hW];exact heap_alloc_new w _
 have hsW:W.heap.size=w.heap.size+1:=by rw[hW];simp
 have HB:Hid (Below w.heap.size w W):=by unfold Hid;rw[hW];exact(Below.refl _ _).alloc (Nat.le_refl _) _
 have HH:=Lib.hid hh
 clear hh
 have HW1:Hid (Ai 1= .agg #[.bool (decide ((n^0)<0)),.string (Cw (n^0).natAbs)]):=by unfold Hid Ai;rw[Int.pow_zero]
 go_enter func80,ntmps80
 go_upto_region 1 with fail
 rw[<-hW]
 clear hW
 go_wp2_with fail
 refine(HO1.out _).mono ?_
 rintro e w1 ⟨rfl,hb1⟩
 have HB1:Hid (Below w.heap.size w w1):=HB.out.trans (hb1.mono HB.out.size)
 have hs1:w.heap.size+1<=w1.heap.size:=by have:=hb1.size;omega
 have hr1:=(hb1.block w.heap.size (by omega)).trans HH.out
 rw[HW1.out]
 obtain⟨V,hV⟩:∃V,V=w1.alloc (.cells #[.bool (decide ((n^0)<0)),.string (Cw (n^0).natAbs)] 96):=⟨_,rfl⟩
 have HJ0:Hid (Acm w n w1.heap.size 0 V):=⟨by rw[hV];exact Le.new w1 _,by rw[hV];exact(Below.heap_alloc _ _ _ (by omega)).trans hr1,by rw[hV];exact HB1.out.alloc (by omega) _⟩
 obtain⟨bo,hbo⟩:∃bo,bo=w1.heap.size:=⟨_,rfl⟩
 rw[<-hbo] at HJ0
 have hbw:w.heap.size<bo:=by omega
 obtain⟨g0,hg0⟩:∃g,g=decide ((n^0)<0):=⟨_,rfl⟩
 obtain⟨u0,hu0⟩:∃g,g=Cw (n^0).natAbs:=⟨_,rfl⟩
 rw[<-hg0,<-hu0] at hV ⊢
 clear hb1 hr1 HB HH HB1 HO1 HW1 hg0 hu0
 go_upto_region 2 with fail
 rw[<-hV,<-hbo]
 clear hV hbo hs1
 go_wp2_with fail
 go_loopw [8] (λiv wr=>∃i:Nat,i<=k/\iv= .int .i64 (i:Int)/\Hid (Acm w n bo i wr)) (λiv _=>k-(intOf iv).toNat)
 case atStart=>exact⟨0,Nat.zero_le _,rfl,HJ0⟩
 case round=>
  obtain⟨i,hi,rfl,HJ⟩:=hrel
  clear HJ0
  by_cases hik:i=k
  ·
   subst hik
   obtain⟨p0,p1⟩:=HJ.out.out.cells
   obtain⟨c0,c1⟩:=Cb HJ.out.res
   have f0:=Ex HJ.out.res 0
   have f1:=Ex HJ.out.res 1
   obtain⟨pg,hpg⟩:∃g,g=decide ((n^i)<0):=⟨_,rfl⟩
   obtain⟨ps,hps⟩:∃g,g=Cw (n^i).natAbs:=⟨_,rfl⟩
   have HPV:Hid (Ai (n^i)= .agg #[.bool pg,.string ps]):=by unfold Hid Ai;rw[hpg,hps]
   rw[<-hpg] at p0
   rw[<-hps] at p1
   clear hpg hps
   go_wp2_with fail
   obtain⟨w4,hw4⟩:∃w4,w4=(wr.setCell ⟨w.heap.size,0,none⟩ (.bool pg)).setCell ⟨w.heap.size,1,none⟩ (.string ps):=⟨_,rfl⟩
   rw[<-hw4]
   obtain⟨k0,k1⟩:w4.cell? ⟨w.heap.size,0,none⟩=some (.bool pg)/\w4.cell? ⟨w.heap.size,1,none⟩=some (.string ps):=by
    rw[hw4];exact Fu c0 c1
   refine bodyPost_ret (v:= .agg #[.bool pg,.string ps]) (by simp[results,results80,go_sem,k0,k1]) rfl ?_
   refine⟨by rw[HPV.out],?_⟩
   rw[hw4]
   exact Below.store2 HJ.out.below (Nat.le_refl _) _ _
  ·
   have hik2:i<k:=by omega
   have hii:(i:Int)<(k:Int):=by omega
   have HNX:Hid (∀w2,Below wr.heap.size wr w2->Acm w n bo (i+1) ((w2.setCell ⟨bo,0,none⟩ (.bool (decide (n^(i+1)<0)))).setCell ⟨bo,1,none⟩ (.string (Cw (n^(i+1)).natAbs)))):=λw2 hb=>
    ⟨(HJ.out.out.up hb HJ.out.out.lt).store _,(Gl _ _ (by omega)).trans ((hb.block _ (by have:=HJ.out.out.lt;omega)).trans HJ.out.res),Below.store2 (HJ.out.below.trans (hb.mono HJ.out.below.size)) (by omega) _ _⟩
   have HML:Hid (∀wa,Below wr.heap.size wr wa->Calls Tryz.prog 78 #[Ai (n^i),Ai n] wa λe w'=>∃v,e= .returned v/\Below wr.heap.size wr w'/\Below wa.heap.size wa w'/\is (Ai (n^(i+1))) v w'):=λwa hC=>by
    refine(Wb (n^i) n wa (HF.out i hi) HF1.out (by rw[<-Int.pow_succ];exact HF.out _ hik2)).mono ?_
    rintro e w' ⟨rfl,hb⟩
    exact⟨_,rfl,hC.trans (hb.mono hC.size),hb,by rw[Int.pow_succ];exact rfl⟩
   have HO2:Hid (∀wa,Below wr.heap.size wr wa->Calls Tryz.prog 79 #[.int .i64 n] wa λe w'=>∃v,e= .returned v/\Below wr.heap.size wr w'/\Below wa.heap.size wa w'/\is (Ai n) v w'):=λwa hC=>by
    refine(HOF.out wa).mono ?_
    rintro e w' ⟨rfl,hb⟩
    exact⟨_,rfl,hC.trans (hb.mono hC.size),hb,rfl⟩
   have CB:Hid (∀wa,Below wr.heap.size wr wa->wa.heap[bo]?=some (.cells #[.bool (decide ((n^i)<0)),.string (Cw (n^i).natAbs)] 96 (0,0))):=λwa hb=>HJ.out.out.up hb HJ.out.out.lt
   unfold Ai at HML HO2
   obtain⟨pg,hpg⟩:∃g,g=decide ((n^i)<0):=⟨_,rfl⟩
   obtain⟨ps,hps⟩:∃g,g=Cw (n^i).natAbs:=⟨_,rfl⟩
   obtain⟨ng,hng⟩:∃g,g=decide (n<0):=⟨_,rfl⟩
   obtain⟨ns,hns⟩:∃g,g=Cw n.natAbs:=⟨_,rfl⟩
   obtain⟨qg,hqg⟩:∃g,g=decide ((n^(i+1))<0):=⟨_,rfl⟩
   obtain⟨qs,hqs⟩:∃g,g=Cw (n^(i+1)).natAbs:=⟨_,rfl⟩
   rw[<-hpg,<-hps] at CB HML
   rw[<-hng,<-hns] at HML HO2
   rw[<-hqg,<-hqs] at HML HNX
   clear hpg hps hng hns hqg hqs
   go_wp2_with fail
   refine Eb 4 16 (λw'=>Below wr.heap.size wr w') [is (.agg #[.bool pg,.string ps]),is (.int .i64 n),is (.agg #[.bool ng,.string ns]),is (.agg #[.bool qg,.string qs])] (by kernel_rfl) (by kernel_rfl) rfl (by decide) ?hst ?h0 ?hop ?htail
   case hst=>
    simp only[List.mem_cons,List.mem_nil_iff,or_false,forall_eq_or_imp,forall_eq]
    exact⟨Aj _,Aj _,Aj _,Aj _⟩
   case h0=>exact(Below.refl _ _).drew
   case hop=>
    refine⟨?_,?_,?_,?_,trivial⟩
    · exact Cf 96 (.tmp 5) (.pointer (some ⟨bo,0,none⟩)) (.agg #[.bool pg,.string ps]) rfl (by kernel_rfl) (λwa hC=>Eu [.bool pg,.string ps] wa (by kernel_rfl) (by kernel_rfl) (Lo (CB.out wa hC))) rfl
    · exact Dw (.tmp 0) (is (.int .i64 n)) rfl (by kernel_rfl) (λ_ _ _ h=>h)
    · exact Dc 79 [.tmp 11] _ [.int .i64 n] rfl (λ_ _=>by kernel_rfl) ⟨by kernel_rfl,trivial⟩ HO2.out
    · exact Dc 78 [.tmp 10,.tmp 12] _ [.agg #[.bool pg,.string ps],.agg #[.bool ng,.string ns]] rfl (λ_ _=>by kernel_rfl) ⟨by kernel_rfl,by kernel_rfl,trivial⟩ HML.out
   case htail=>
   intro τ w2 hC hR
   have r3:τ 3= .agg #[.bool qg,.string qs]:=hR 3 (by decide)
   simp only[Ch,List.getElem?_toArray,List.getElem?_cons_succ,List.getElem?_cons_zero,Option.bind_some,Act.put,List.setIfInBounds_toArray,List.set_cons_succ,List.set_cons_zero,List.drop_succ_cons,List.drop_zero,r3]
   clear hR r3
   have HN2:=Lib.hid (HNX.out w2 hC)
   have h1:=CB.out w2 hC
   obtain⟨c0,c1⟩:=Cb h1
   have f0:=Ex h1 0
   have f1:=Ex h1 1
   clear hC h1 CB
   go_wp2_with fail
   exact⟨⟨i+1,by omega,rfl,HN2⟩,by simp only[intOf];omega⟩
end Go.Proofs.YtkcnbaeoahoglaaGreat