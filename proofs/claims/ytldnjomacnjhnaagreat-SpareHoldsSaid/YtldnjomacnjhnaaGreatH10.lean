/- Part 10 of the proof of SH.row_holds, joined by program: no condition beyond the row's own. -/
import Derived.Test.YtldnjomacnjhnaaGreatH9
import Derived.Deep.LoopGhost
set_option maxRecDepth 100000
set_option maxHeartbeats 40000000
namespace Go.Proofs.YtldnjomacnjhnaaGreat
open Go.Proofs.Tryz
open Go.RowKit
def iH (w:World) (n:Nat) (e:Ending) (w':World):Prop:=∃v',e= .returned v'/\Bi w' 0 w'.heap.size v' n/\Below w.heap.size w w'
structure Aex (w:World) (G a b:Nat) (va vb:Value) (wr:World):Prop where
 na:Bi wr 0 wr.heap.size va a
 nb:Bi wr 0 wr.heap.size vb b
 g:Nat.gcd a b=G
 below:Below w.heap.size w wr
 la:(Al a).length<=100000
 lb:(Al b).length<=100000
theorem Ade (n m:Nat) (v v':Value) (l0 h0 l1 h1:Nat) (w:World) (h:Bi w l0 h0 v n) (h':Bi w l1 h1 v' m) (hh:h0<=w.heap.size) (hh':h1<=w.heap.size) (hl:(Al n).length<=100000) (hl':(Al m).length<=100000):
  Calls Tryz.prog 151 #[v,v'] w (iH w (Nat.gcd n m)):=by
 have HJ0:Hid (Aex w (Nat.gcd n m) n m v v' w):=⟨h.more (Nat.zero_le _) hh,h'.more (Nat.zero_le _) hh',rfl,Below.refl _ _,hl,hl'⟩
 clear h h' hh hh' hl hl'
 obtain⟨G,hG⟩:∃G,G=Nat.gcd n m:=⟨_,rfl⟩
 rw[<-hG] at HJ0 ⊢
 clear hG
 go_enter func151,ntmps151
 go_wp2_with fail
 go_loopg [0,1,5,6] m (λb va vb _ _ wr=>∃a:Nat,Hid (Aex w G a b va vb wr))
 case atStart=>exact⟨n,HJ0⟩
 case round=>
  obtain⟨a,HJ⟩:=hrel
  clear HJ0
  obtain⟨A,c,hvb⟩:=HJ.out.nb.1.slice
  subst hvb
  by_cases hb:gk=0
  ·
   subst hb
   have hz:((Al 0).length:Int)=0:=by rw[Db];rfl
   have HA:Hid (a=G):=by have:=HJ.out.g;rw[Nat.gcd_zero_right] at this;exact this
   go_wp2_with fail
   go_ret
   refine⟨_,rfl,?_,HJ.out.below⟩
   rw[<-HA.out];exact HJ.out.na
  ·
   have hp:0<((Al gk).length:Int):=by have:=List.length_pos_iff.2 λe=>hb (Iu.1 e);omega
   have HD:=Lib.hid (tW a gk _ (.slice A (Al gk).length c) 0 _ 0 _ _ HJ.out.na HJ.out.nb (Nat.le_refl _) (Nat.le_refl _) HJ.out.la HJ.out.lb (Nat.pos_of_ne_zero hb))
   have hpn:0<(Al gk).length:=by omega
   go_wp2_with fail
   refine HD.out.mono ?_
   rintro e w2 ⟨vq,vr,rfl,_,hr,hb2⟩
   have HN:Hid (Aex w G gk (a%gk) (.slice A (Al gk).length c) vr w2):=by
    refine⟨HJ.out.nb.up (Nat.le_refl _) hb2,hr,?_,HJ.out.below.trans (hb2.mono HJ.out.below.size),HJ.out.lb,Nat.le_trans (Lk (Nat.mod_le _ _)) HJ.out.la⟩
    rw[<-HJ.out.g,Nat.gcd_comm a gk,Nat.gcd_rec gk a,Nat.gcd_comm]
   have hlt:a%gk<gk:=Nat.mod_lt _ (Nat.pos_of_ne_zero hb)
   have HLT:=Lib.hid hlt
   clear hlt hr hb2
   generalize a%gk=r at*
   go_wp2_with fail
   go_roundg r
   case measure=>exact HLT.out
   case rel=>exact⟨gk,HN⟩
theorem Acl (w:World):(sizeOf 155).run Tryz.prog w= .ok 1 w:=by kernel_rfl
def Dx (z:Nat):ByteArray:=⟨(be z).toArray⟩
theorem Vc (z:Nat):(Dx z).size=(be z).length:=by simp[Dx,ByteArray.size]
structure Aa4 (w:World) (z L i:Nat) (ls:List Nat) (wr:World):Prop where
 row:Bo wr w.heap.size ls
 below:Below w.heap.size w wr
 len:ls.length=(Al z).length
 dig:Iq ls
 sum:val ls=z/256^(L-i)*256^(L-i)
theorem Vt (z L:Nat) (w:World) (hL:L=(be z).length) (hl:L<=400000):Calls Tryz.prog 127 #[.string (Dx z)] w (Dn w z):=by
 have hll:=bH z
 rw[<-hL] at hll
 obtain⟨K,hK⟩:∃K,K=(Al z).length:=⟨_,rfl⟩
 rw[<-hK] at hll
 have hmk:=Kn K ω w
 obtain⟨V,hV⟩:∃V,V=w.alloc (.cells (Mi (List.replicate K 0)) 155):=⟨_,rfl⟩
 rw[<-hV] at hmk
 have HJ0:Hid (Aa4 w z L 0 (List.replicate K 0) V):=by
  refine⟨by rw[hV];exact Bo.made _ _ _,by rw[hV];exact(Below.refl _ _).alloc (Nat.le_refl _) _,by simp[hK],Iq.zeros _,?_⟩
  rw[Tb,Nat.sub_zero]
  have:=Ae3 (be z)
  rw[qI,<-hL] at this
  rw[Nat.div_eq_of_lt this,Nat.zero_mul]
 clear hV
 have HK:=Lib.hid hK
 have hsz:(Dx z).size=L:=by rw[Vc,hL]
 have hd8:((L:Int)+7).tdiv 8=(K:Int):=by
  rw[Int.tdiv_eq_ediv_of_nonneg ω];omega
 have HBY:Hid (∀i k b (h:i<(Dx z).size),k=L-1-i->b=((Dx z)[i]).toNat->b=z/256^k%256):=λi k b h hk hb=>by
  rw[Vc] at h
  rw[hb,hk,hL];exact Aeg z i h
 have HL:=Lib.hid hL
 have HLL:=Lib.hid hll
 have hKb:K<=50001:=by omega
 clear hK hL hll
 obtain⟨s,hs⟩:∃s,s=Dx z:=⟨_,rfl⟩
 rw[<-hs] at hsz HBY ⊢
 clear hs
 have hKw:wrap64 (K:Int)=(K:Int):=IntWalk.wrap64_in _ ω
 go_enter func127,ntmps127
 go_wp2_with (rw[hd8])
 go_loopw [4,5,13] (λ_ _ iv wr=>∃(i:Nat) (ls:List Nat),i<=L/\iv= .int .i64 (i:Nat)/\Hid (Aa4 w z L i ls wr)) (λ_ _ i _=>L-(intOf i).toNat)
 case atStart=>exact⟨0,_,Nat.zero_le _,rfl,HJ0⟩
 case round=>
  obtain⟨i,ls,hi,rfl,HJ⟩:=hrel
  clear HJ0 hmk
  by_cases hiL:i=L
  ·
   subst hiL
   have HV:Hid (ls=Al z):=Ab0 HJ.out.dig (by have:=HJ.out.sum;rw[Nat.sub_self,Nat.pow_zero,Nat.div_one,Nat.mul_one] at this;exact this) HJ.out.len
   have HS:Hid (Cc wr w.heap.size wr.heap.size 1 (.slice (some ⟨w.heap.size,0,none⟩) K K) (Al z).length (Iz (Al z))):=by
    have h1:=HJ.out.row.sees (j:=0) (n:=K) (c:=K) (lo:=w.heap.size) (hi:=wr.heap.size) (by rw[HJ.out.len,<-HK.out];omega) (Nat.le_refl _) HJ.out.row.lt
    rw[List.drop_zero,List.take_of_length_le (by rw[HJ.out.len,<-HK.out];omega),HV.out] at h1
    unfold Hid
    rw[<-HK.out];exact h1
   go_wp2_with fail
   go_ret
   refine⟨_,rfl,⟨HS.out,?_⟩,HJ.out.below⟩
   show K<=K
   exact Nat.le_refl _
  ·
   have hin:i<L:=by omega
   have hii:(i:Int)<(L:Int):=by omega
   obtain⟨k,hk⟩:∃k,k=L-1-i:=⟨_,rfl⟩
   have hLi:L-i=k+1:=by omega
   have hLi1:L-(i+1)=k:=by omega
   obtain⟨L1,hL1⟩:∃L1,L1=L-1:=⟨_,rfl⟩
   have hw1:wrap64 ((L:Int)-1)=(L1:Int):=by rw[IntWalk.wrap64_in _ ω];omega
   have hkk:(L:Int)-1-(i:Int)=(k:Int):=by omega
   have hw2:wrap64 ((L1:Int)-(i:Int))=(k:Int):=by rw[IntWalk.wrap64_in _ ω];omega
   obtain⟨q,hq⟩:∃q,q=k/8:=⟨_,rfl⟩
   obtain⟨m,hm⟩:∃m,m=k%8:=⟨_,rfl⟩
   obtain⟨r,hr⟩:∃r,r=8*(k%8):=⟨_,rfl⟩
   have hkq:(k:Int).tdiv 8=(q:Int):=by rw[hq];rfl
   have hkm:(k:Int).tmod 8=(m:Int):=by rw[hm];rfl
   have HMR:Hid (IntKind.i64.wrap ((m:Int)*8)=(r:Int)):=by unfold Hid;rw[IntWalk.i64_in _ ω];omega
   have hr64:r<64:=by omega
   have hqK:q<K:=by have:=HLL.out;omega
   have hqKi:(q:Int)<(K:Int):=by omega
   have HQI:Hid (IntKind.i64.wrap (q:Int)=(q:Int)):=IntWalk.i64_in _ ω
   have gb:wr.cell? ⟨w.heap.size,q,none⟩=some (.int .u64 (dg ls q:Int)):=HJ.out.row.cell (by rw[HJ.out.len,<-HK.out];exact hqK)
   have hin':i<s.size:=by rw[hsz];exact hin
   obtain⟨b,hb⟩:∃b,b=(s[i]'hin').toNat:=⟨_,rfl⟩
   have hbe:=HBY.out i k b hin' hk hb
   have HST:=xQ HJ.out.dig hq hr (by rw[HJ.out.len,<-HK.out];exact hqK) (by have:=HJ.out.sum;rw[hLi] at this;exact this) hbe
   have HB:=Lib.hid hb
   have HSTH:=Lib.hid HST
   have HNX:Hid (∀w2,Bo w2 w.heap.size (ls.set q (dg ls q+b*2^r))->Below w.heap.size w w2->Aa4 w z L (i+1) (ls.set q (dg ls q+b*2^r)) w2):=λw2 h hb=>
    ⟨h,hb,by rw[List.length_set];exact HJ.out.len,HJ.out.dig.set HSTH.out.2.1,by rw[hLi1];exact HSTH.out.2.2⟩
   have hb256:b<256:=by rw[hb];exact(s[i]'hin').toNat_lt
   have HUB:Hid (dg ls q<Bw):=Ij HJ.out.dig q
   obtain⟨u,hu⟩:∃u,u=dg ls q:=⟨_,rfl⟩
   rw[<-hu] at gb HSTH HNX HUB
   obtain⟨t,ht⟩:∃t,t=u+b*2^r:=⟨_,rfl⟩
   rw[<-ht] at HNX HSTH
   have h3:b*2^r<Bw:=by have:=HSTH.out.2.1;rw[ht] at this;omega
   have HSH:Hid (IntKind.u64.wrap ((b:Int)*2^r)=(b:Int)*2^r):=by
    unfold Hid;rw[Pj,Nat.mod_eq_of_lt h3];simp
   have HOR:Hid (bits .or .u64 (u:Int) ((b:Int)*2^r)=(t:Int)):=by
    have:=Nr HUB.out h3
    rw[HSTH.out.1] at this
    unfold Hid
    rw[<-this];simp
   have HBW:Hid (IntKind.u64.wrap (b:Int)=(b:Int)):=Ca (by have:Bw=18446744073709551616:=rfl;omega)
   have HBS:Hid (((s[i]'hin').toNat:Int)=(b:Int)):=by unfold Hid;rw[<-hb]
   clear hk hL1 hq hm hr hLi hLi1 hbe hb HST hu ht HLL HSTH hb256 h3
   go_wp2_with fail
   have CB:Hid (∀wa,Below wr.heap.size wr wa->wa.cell? ⟨w.heap.size,0+q*1,none⟩=some (.int .u64 (u:Int))):=λwa h=>by
    rw[Nat.zero_add,Nat.mul_one]
    exact(h.cell (p:=⟨w.heap.size,q,none⟩) HJ.out.row.lt).trans gb
   refine Dc 14 38 (λw'=>Below wr.heap.size wr w') [is (.slice (some ⟨w.heap.size,0,none⟩) K K),is (.int .i64 (k:Int)),is (.int .i64 (q:Int)),is (.pointer (some ⟨w.heap.size,0+q*1,none⟩)),is (.int .u64 (u:Int)),is (.string s),is (.int .i64 (i:Int)),is (.int .u8 (b:Int)),is (.int .u64 (b:Int)),is (.int .i64 (k:Int)),is (.int .i64 (m:Int)),is (.int .i64 (r:Int)),is (.int .u64 ((b*2^r:Nat):Int)),is (.int .u64 (t:Int))] κ κ rfl δ ?hst ?h0 ?hop ?htail
   case hst=>
    simp only[List.mem_cons,List.mem_nil_iff,or_false,forall_eq_or_imp,forall_eq]
    exact⟨Ab _,Ab _,Ab _,Ab _,Ab _,Ab _,Ab _,Ab _,Ab _,Ab _,Ab _,Ab _,Ab _,Ab _⟩
   case h0=>exact(Below.refl _ _).drew
   case hop=>
    refine⟨?_,?_,?_,?_,?_,?_,?_,?_,?_,?_,?_,?_,?_,?_,trivial⟩
    · exact Cy (.tmp 3) (is (.slice (some ⟨w.heap.size,0,none⟩) K K)) rfl κ (λ_ _ _ h=>h)
    · exact Cy (.tmp 5) (is (.int .i64 (k:Int))) rfl κ (λ_ _ _ h=>h)
    · exact bQ 22 (.int .i64 8) (.int .i64 (k:Int)) (.int .i64 (q:Int)) rfl κ (λa wa _ e1=>by go_simp;exact HQI.out) rfl
    · exact Mx 151 155 21 23 w.heap.size 0 K K 1 (q:Int) q rfl κ κ underlying151 Acl rfl hqK rfl
    · exact Bb 155 (.tmp 24) (.pointer (some ⟨w.heap.size,0+q*1,none⟩)) (.int .u64 (u:Int)) rfl κ (λwa hC=>As wa κ (CB.out wa hC)) rfl
    · exact Cy (.tmp 0) (is (.string s)) rfl κ (λ_ _ _ h=>h)
    · exact Cy (.tmp 4) (is (.int .i64 (i:Int))) rfl κ (λ_ _ _ h=>h)
    · exact Vz 26 27 (.string s) (.int .i64 (i:Int)) (.int .u8 (b:Int)) rfl κ κ (λa wa _ e1 e2=>by go_simp;exact HBS.out) rfl
    · exact Vy 28 (.int .u8 (b:Int)) (.int .u64 (b:Int)) rfl κ (λa wa _ e1=>by go_simp;exact HBW.out) rfl
    · exact Cy (.tmp 5) (is (.int .i64 (k:Int))) rfl κ (λ_ _ _ h=>h)
    · exact bQ 30 (.int .i64 8) (.int .i64 (k:Int)) (.int .i64 (m:Int)) rfl κ (λa wa _ e1=>by go_simp) rfl
    · exact bQ 31 (.int .i64 8) (.int .i64 (m:Int)) (.int .i64 (r:Int)) rfl κ (λa wa _ e1=>by go_simp;exact HMR.out) rfl
    · exact Vz 29 32 (.int .u64 (b:Int)) (.int .i64 (r:Int)) (.int .u64 ((b*2^r:Nat):Int)) rfl κ κ (λa wa _ e1 e2=>by go_simp;exact HSH.out) rfl
    · exact Vz 25 33 (.int .u64 (u:Int)) (.int .u64 ((b*2^r:Nat):Int)) (.int .u64 (t:Int)) rfl κ κ (λa wa _ e1 e2=>by go_simp;exact HOR.out) rfl
   case htail=>
   intro τ w2 hC hR
   have r2:τ 2= .int .i64 (q:Int):=hR 2 δ
   have r0:τ 0= .slice (some ⟨w.heap.size,0,none⟩) K K:=hR 0 δ
   have r13:τ 13= .int .u64 (t:Int):=hR 13 δ
   simp only[Bl,List.getElem?_toArray,List.getElem?_cons_succ,List.getElem?_cons_zero,Option.bind_some,Act.put,List.setIfInBounds_toArray,List.set_cons_succ,List.set_cons_zero,List.drop_succ_cons,List.drop_zero,r0,r2,r13]
   clear hR r0 r2 r13
   have HR2:Hid (Bo w2 w.heap.size ls):=HJ.out.row.below hC HJ.out.row.lt
   have HB2:Hid (Below w.heap.size w w2):=HJ.out.below.trans (hC.mono HJ.out.below.size)
   have gb2:w2.cell? ⟨w.heap.size,q,none⟩=some (.int .u64 (u:Int)):=(hC.cell (p:=⟨w.heap.size,q,none⟩) HJ.out.row.lt).trans gb
   have gf2:=HR2.out.frozen q
   have HN:=Lib.hid (HNX.out _ (HR2.out.set q t) (HB2.out.setCell (Nat.le_refl _) _))
   clear gb
   go_wp2_with fail
   exact⟨⟨i+1,_,ω,rfl,HN⟩,by simp only[intOf];omega⟩
def iL (w:World) (b:Nat) (l:List UInt8):Prop:=∃cur t,w.heap[b]?=some (.cells cur t (0,0))/\∀i (h:i<l.length),cur[i]?=some (.int .u8 (l[i].toNat:Int))
theorem iL.cell {w:World} {b:Nat} {l:List UInt8} (h:iL w b l) {i:Nat} (hi:i<l.length):w.cell? ⟨b,i,none⟩=some (.int .u8 (l[i].toNat:Int)):=by
 obtain⟨cur,t,hr,hc⟩:=h
 rw[<-hc i hi];simp[World.cell?,hr]
theorem iL.frozen {w:World} {b:Nat} {l:List UInt8} (h:iL w b l) (i:Nat):w.frozen? ⟨b,i,none⟩=false:=by
 obtain⟨cur,t,hr,hc⟩:=h
 simp[World.frozen?,hr]
theorem iL.set {w:World} {b:Nat} {l:List UInt8} (h:iL w b l) (i:Nat) (x:UInt8):iL (w.setCell ⟨b,i,none⟩ (.int .u8 (x.toNat:Int))) b (l.set i x):=by
 obtain⟨cur,t,hr,hc⟩:=h
 refine⟨cur.setIfInBounds i (.int .u8 (x.toNat:Int)),t,by simp[World.setCell,Array.getElem?_modify,hr],λj hj=>?_⟩
 rw[List.length_set] at hj
 have:=hc j hj
 rw[Array.getElem?_setIfInBounds,List.getElem_set]
 by_cases e:i=j
 subst e
 rw[if_pos rfl,if_pos (Array.getElem?_eq_some_iff.1 this).1,if_pos rfl]
 rw[if_neg e,if_neg e];exact this
theorem Aea:(Tryz.prog.info? 5).map (λi=>(i.zero,i.size,i.bytes))=some (some (.int .u8 0),1,1):=by kernel_rfl
theorem Adm (n:Nat) (hn:n<=10000000) (w:World):∃cs,(Instr.makeSlice 228 (.int .i64 (n:Nat)) (.int .i64 (n:Nat))).run Tryz.prog w= .ok (.slice (some ⟨w.heap.size,0,none⟩) n n) (w.alloc (.cells cs 5))/\
  iL (w.alloc (.cells cs 5)) w.heap.size (List.replicate n 0):=by
 obtain⟨i0,hi0,hz0,hz1,hz2⟩:=info_parts Aea
 have:=run_makeSlice w 228 5 i0 _ underlying228 hi0 hz0 .i64 .i64 (n:Nat) (n:Nat) ω ω (by rw[hz1];simp;omega) (by rw[hz2];omega) ω
 rw[hz1] at this
 simp only[Int.toNat_natCast] at this
 refine⟨_,this,madeCells (Value.int .u8 0).cells (n*1),5,heap_alloc_new _ _,λi h=>?_⟩
 simp at h
 simp[madeCells,Value.cells,Nat.mod_one,h]
structure qG (w:World) (z L i:Nat) (wr:World):Prop where
 row:iL wr w.heap.size ((be z).take i++List.replicate (L-i) 0)
 below:Below w.heap.size w wr
theorem zJ {l:List UInt8} {L i:Nat} (hl:l.length=L) (hi:i<L):(l.take i++List.replicate (L-i) 0).set i (l[i]' ω)=l.take (i+1)++List.replicate (L-(i+1)) 0:=by
 subst hl
 rw[List.set_append,List.length_take_of_le ω,if_neg ω,Nat.sub_self,List.take_succ_eq_append_getElem hi,List.append_assoc]
 congr 1
 rw[show l.length-i=(l.length-(i+1))+1 by omega,List.replicate_succ]
 rfl
theorem zI (z L:Nat) (v:Value) (l0 h0:Nat) (w:World) (h:Bi w l0 h0 v z) (hh:h0<=w.heap.size) (hL:L=(be z).length) (hl:L<=400000):
  Calls Tryz.prog 150 #[v] w λe w'=>e= .returned (.string (Dx z))/\Below w.heap.size w w':=by
 have hll:=bH z
 rw[<-hL] at hll
 have hbl:=So z
 rw[<-hL] at hbl
 obtain⟨K,hK⟩:∃K,K=(Al z).length:=⟨_,rfl⟩
 rw[<-hK] at hll
 have HSZ:=Lib.hid (cR z v l0 h0 w h (by rw[<-hK];omega))
 have hsv:=h.1
 obtain⟨A,c,rfl⟩:=hsv.slice
 have HS:=Lib.hid hsv
 clear h hsv
 obtain⟨B,hB⟩:∃B,B=bitLen z:=⟨_,rfl⟩
 rw[<-hB] at hbl HSZ
 have hd8H:Hid (((B:Int)+7).tdiv 8=(L:Int)):=by unfold Hid;rw[Int.tdiv_eq_ediv_of_nonneg ω];omega
 have hBb:B<=3200000:=by omega
 have hLwH:Hid (wrap64 (L:Int)=(L:Int)):=IntWalk.wrap64_in _ ω
 obtain⟨cs,hmk,hrow⟩:=Adm L ω w
 obtain⟨V,hV⟩:∃V,V=w.alloc (.cells cs 5):=⟨_,rfl⟩
 rw[<-hV] at hmk hrow
 have HJ0:Hid (qG w z L 0 V):=⟨by simpa using hrow,by rw[hV];exact(Below.refl _ _).alloc (Nat.le_refl _) _⟩
 have HBY:Hid (∀i k (h:i<(be z).length),k=L-1-i->((be z)[i]).toNat=dg (Al z) (k/8)/2^(8*(k%8))%256):=λi k h hk=>by
  rw[sJ,hk,hL];exact Aeg z i h
 have HL:=Lib.hid hL
 have HK:=Lib.hid hK
 have HLL:=Lib.hid hll
 rw[<-hK] at HSZ ⊢
 clear hV hrow hL hK hll hbl hB
 have hd8:=hd8H.out
 have hLw:=hLwH.out
 go_enter func150,ntmps150
 go_wp2_with fail
 refine HSZ.out.mono ?_
 rintro e w' ⟨rfl,rfl⟩
 go_wp2_with (rw[hd8])
 go_loopw [4,5,13] (λ_ _ iv wr=>∃i:Nat,i<=L/\iv= .int .i64 (i:Nat)/\Hid (qG w z L i wr)) (λ_ _ i _=>L-(intOf i).toNat)
 case atStart=>exact⟨0,Nat.zero_le _,rfl,HJ0⟩
 case round=>
  obtain⟨i,hi,rfl,HJ⟩:=hrel
  clear HJ0 hmk hd8
  by_cases hiL:i=L
  ·
   subst hiL
   have hcv:(convert 228 9 (.slice (some ⟨w.heap.size,0,none⟩) i i)).run Tryz.prog wr= .ok (.string (Dx z)) wr:=by
    have hr:=HJ.out.row
    rw[Nat.sub_self,List.replicate_zero,List.append_nil,List.take_of_length_le (by rw[HL.out];exact Nat.le_refl _)] at hr
    have:=run_convert_bytes_back (P:=Tryz.prog) wr 228 9 5 ⟨w.heap.size,0,none⟩ i (be z) underlying228 underlying5 underlying9 (λj hj=>by
     rw[Fb,Nat.zero_add,hr.cell hj])
    rw[<-HL.out] at this
    exact this
   have HBW:=Lib.hid HJ.out.below
   clear HJ
   go_wp2_with (rw[hcv])
   go_ret
   exact⟨rfl,HBW.out⟩
  ·
   have hin:i<L:=by omega
   have hii:(i:Int)<(L:Int):=by omega
   obtain⟨k,hk⟩:∃k,k=L-1-i:=⟨_,rfl⟩
   obtain⟨L1,hL1⟩:∃L1,L1=L-1:=⟨_,rfl⟩
   have hw1H:Hid (wrap64 ((L:Int)-1)=(L1:Int)):=by unfold Hid;rw[IntWalk.wrap64_in _ ω];omega
   have hkk:(L:Int)-1-(i:Int)=(k:Int):=by omega
   have hw2H:Hid (wrap64 ((L1:Int)-(i:Int))=(k:Int)):=by unfold Hid;rw[IntWalk.wrap64_in _ ω];omega
   obtain⟨q,hq⟩:∃q,q=k/8:=⟨_,rfl⟩
   obtain⟨m,hm⟩:∃m,m=k%8:=⟨_,rfl⟩
   obtain⟨r,hr⟩:∃r,r=8*(k%8):=⟨_,rfl⟩
   have hkqH:Hid ((k:Int).tdiv 8=(q:Int)):=by unfold Hid;rw[hq];rfl
   have hkmH:Hid ((k:Int).tmod 8=(m:Int)):=by unfold Hid;rw[hm];rfl
   have hmrH:Hid (wrap64 ((m:Int)*8)=(r:Int)):=by unfold Hid;rw[IntWalk.wrap64_in _ ω];omega
   have hmr8:(m:Int)*8=(r:Int):=by omega
   have hr64:r<64:=by omega
   have hqK:q<K:=by have:=HLL.out;omega
   have hqKi:(q:Int)<(K:Int):=by omega
   have hqwH:Hid (wrap64 (q:Int)=(q:Int)):=IntWalk.wrap64_in _ ω
   have hil:i<(be z).length:=by rw[<-HL.out];exact hin
   have hbe:=HBY.out i k hil hk
   rw[<-hq,<-hr] at hbe
   have HK1:=Lib.hid hk
   clear hk hL1 hq hm hr
   obtain⟨b,o,c1,e,_,hb1,hc⟩:=HS.out.pos (by rw[<-HK.out];omega)
   have hA:A=some ⟨b,o,none⟩:=by cases e;rfl
   subst hA
   clear e
   have g0:wr.cell? ⟨b,o+q,none⟩=some (.int .u64 (dg (Al z) q:Int)):=(HJ.out.below.cell (p:=⟨b,o+q,none⟩) (by show b<_;omega)).trans (hc _ _ (Ds _ _ (by rw[<-HK.out];exact hqK)))
   clear hc
   obtain⟨y,hy⟩:∃y,y=(be z)[i]:=⟨_,rfl⟩
   rw[<-hy] at hbe
   have HNX:Hid (qG w z L (i+1) (wr.setCell ⟨w.heap.size,i,none⟩ (.int .u8 (y.toNat:Int)))):=by
    refine⟨?_,HJ.out.below.setCell (Nat.le_refl _) _⟩
    have:=HJ.out.row.set i y
    rw[hy,zJ HL.out.symm hin] at this
    rw[hy];exact this
   have hlen:((be z).take i++List.replicate (L-i) 0).length=L:=by
    rw[List.length_append,List.length_take_of_le (by rw[<-HL.out];exact hi),List.length_replicate];omega
   have gb:∃u,wr.cell? ⟨w.heap.size,i,none⟩=some u:=⟨_,HJ.out.row.cell (i:=i) (by rw[hlen];exact hin)⟩
   obtain⟨u,gb⟩:=gb
   have gf:=HJ.out.row.frozen i
   obtain⟨x,hx⟩:∃x,x=dg (Al z) q:=⟨_,rfl⟩
   rw[<-hx] at g0 hbe
   have hby:IntKind.u8.wrap ((x:Int)/2^r)=(y.toNat:Int):=by
    rw[hbe,show ((x:Int)/2^r)=((x/2^r:Nat):Int) by simp,IntKind.wrap_u8];omega
   obtain⟨yn,hyn⟩:∃yn,yn=y.toNat:=⟨_,rfl⟩
   rw[<-hyn] at hby HNX
   clear hbe hx hy hlen hyn
   have hw1:=hw1H.out
   have hw2:=hw2H.out
   have hkq:=hkqH.out
   have hkm:=hkmH.out
   have hmr:=hmrH.out
   have hqw:=hqwH.out
   go_wp2_with fail
   exact⟨⟨i+1,ω,rfl,HNX⟩,by simp only[intOf];omega⟩
def Ig (neg:Bool) (n:Nat):Int:=if neg then -(n:Int) else n
theorem Zr (neg:Bool) (n:Nat):(Ig neg n).natAbs=n:=by unfold Ig;split<;>simp
theorem AbX (z:Int):Ig (decide (z<0)) z.natAbs=z:=by unfold Ig;by_cases h:z<0<;>simp[h]<;>omega
def Ak (z:Int):Value:= .agg #[.bool (decide (z<0)),.string (Dx z.natAbs)]
def Jh (v:Value) (w:World) (z:Int):Prop:=∃neg mv n,v= .agg #[.bool neg,mv]/\Bi w 0 w.heap.size mv n/\Ig neg n=z
theorem Jh.up {v:Value} {w w':World} {z:Int} (h:Jh v w z) (hb:Below w.heap.size w w'):Jh v w' z:=by
 obtain⟨neg,mv,n,e,hn,hz⟩:=h
 exact⟨neg,mv,n,e,hn.up (Nat.le_refl _) hb,hz⟩
def Kt (n:Nat) (v:Value) (w:World):Prop:=Bi w 0 w.heap.size v n
theorem Fz (n:Nat):Hp (Kt n):=λ_ _ _ hb h=>Bi.up h (Nat.le_refl _) hb
def Cq (z:Int) (v:Value) (w:World):Prop:=Jh v w z
theorem Dk (z:Int):Hp (Cq z):=λ_ _ _ hb h=>Jh.up h hb
def aJ (w:World) (z:Int) (e:Ending) (w':World):Prop:=∃v,e= .returned v/\Jh v w' z/\Below w.heap.size w w'
theorem Dn.word {w0 w w':World} {n:Nat} {e:Ending} (h:Dn w n e w') (hC:Below w0.heap.size w0 w):∃v,e= .returned v/\Below w0.heap.size w0 w'/\Below w.heap.size w w'/\Kt n v w':=by
 obtain⟨v,he,hv,hb⟩:=h
 exact⟨v,he,hC.trans (hb.mono hC.size),hb,hv.more (Nat.zero_le _) (Nat.le_refl _)⟩
theorem iH.word {w0 w w':World} {n:Nat} {e:Ending} (h:iH w n e w') (hC:Below w0.heap.size w0 w):∃v,e= .returned v/\Below w0.heap.size w0 w'/\Below w.heap.size w w'/\Kt n v w':=by
 obtain⟨v,he,hv,hb⟩:=h
 exact⟨v,he,hC.trans (hb.mono hC.size),hb,hv⟩
theorem aJ.word {w0 w w':World} {z:Int} {e:Ending} (h:aJ w z e w') (hC:Below w0.heap.size w0 w):∃v,e= .returned v/\Below w0.heap.size w0 w'/\Below w.heap.size w w'/\Cq z v w':=by
 obtain⟨v,he,hv,hb⟩:=h
 exact⟨v,he,hC.trans (hb.mono hC.size),hb,hv⟩
theorem Od (w:World) (o o':Obj):((w.alloc o).alloc o').heap[w.heap.size]?=some o/\((w.alloc o).alloc o').heap[w.heap.size+1]?=some o':=by
 constructor
 show ((w.heap.push o).push o')[w.heap.size]?=some o
 simp[Array.getElem?_push]
 have:=heap_alloc_new (w.alloc o) o'
 rwa [World.size_alloc] at this
theorem Ey {w:World} {b:Nat} {u u' v v':Value} (h0:w.cell? ⟨b,0,none⟩=some u) (h1:w.cell? ⟨b,1,none⟩=some u'):
  ((w.setCell ⟨b,0,none⟩ v).setCell ⟨b,1,none⟩ v').cell? ⟨b,0,none⟩=some v/\((w.setCell ⟨b,0,none⟩ v).setCell ⟨b,1,none⟩ v').cell? ⟨b,1,none⟩=some v':=by
 constructor
 rw[World.cell?_setCell_other _ _ _ _ (by simp),World.cell?_setCell_same _ _ _ h0]
 exact World.cell?_setCell_same _ _ _ ((World.cell?_setCell_other _ _ _ _ (by simp)).trans h1)
def No:Value->Prop
 | .int _ _=>False
 |_=>True
theorem Bi.store2 {w:World} {lo hi:Nat} {v:Value} {n b:Nat} {x0 x1:Value} {t:TypeId} {fz:Nat×Nat} (h:Bi w lo hi v n) (hb:w.heap[b]?=some (.cells #[x0,x1] t fz)) (h0:No x0) (h1:No x1) (u0 u1:Value):
  Bi ((w.setCell ⟨b,0,none⟩ u0).setCell ⟨b,1,none⟩ u1) lo hi v n:=by
 refine⟨⟨h.1.1,?_⟩,h.2⟩
 rcases h.1.2 with h2|⟨b',o,c,e,hd,hc⟩
 exact .inl h2
 refine .inr ⟨b',o,c,e,hd,λj u hu=>?_⟩
 have h3:=hc j u hu
 have hj:=(List.getElem?_eq_some_iff.1 hu).1
 rw[Dy] at hj
 have hne:b≠b':=by
  intro e2
  subst e2
  rw[Ds _ _ hj] at hu
  cases hu
  simp only[World.cell?,hb] at h3
  generalize o+j=k at h3
  match k with
  |0=>simp at h3;subst h3;exact h0
  |1=>simp at h3;subst h3;exact h1
  |k+2=>simp at h3
 rw[World.cell?_setCell_other _ _ _ _ (by simp),World.cell?_setCell_other _ _ _ _ (by simp)]
 exact h3
theorem Below.store2 {B:Nat} {a w:World} {b:Nat} (h:Below B a w) (hb:B<=b) (u0 u1:Value):Below B a ((w.setCell ⟨b,0,none⟩ u0).setCell ⟨b,1,none⟩ u1):=(h.setCell (p:=⟨b,0,none⟩) hb u0).setCell (p:=⟨b,1,none⟩) hb u1
theorem Gb (w:World) (b:Nat) (u0 u1:Value):((w.setCell ⟨b,0,none⟩ u0).setCell ⟨b,1,none⟩ u1).heap.size=w.heap.size:=by simp[World.setCell]
theorem Ss {w w2:World} {b n c:Nat} {A:Option Addr} {ng:Bool} {z:Int} {x0 x1:Value} {t:TypeId} {fz:Nat×Nat} (hM:Bi w2 0 w2.heap.size (.slice A (Al n).length c) n) (hb:w2.heap[b]?=some (.cells #[x0,x1] t fz)) (h0:No x0) (h1:No x1)
  (hB:Below w.heap.size w w2) (hwb:w.heap.size<=b) (hz:Ig ng n=z):aJ w z (.returned (.agg #[.bool ng,.slice A (Al n).length c])) ((w2.setCell ⟨b,0,none⟩ (.bool ng)).setCell ⟨b,1,none⟩ (.slice A (Al n).length c)):=by
 refine⟨_,rfl,⟨ng,_,n,rfl,?_,hz⟩,Below.store2 hB hwb _ _⟩
 rw[Gb]
 exact hM.store2 hb h0 h1 _ _
theorem Mw (z:Int) (L:Nat) (w:World) (hL:L=(be z.natAbs).length) (hl:L<=400000):Calls Tryz.prog 100 #[Ak z] w (aJ w z):=by
 have HL:=Lib.hid hL
 clear hL
 obtain⟨ng,hng⟩:∃ng,ng=decide (z<0):=⟨_,rfl⟩
 obtain⟨n,hn⟩:∃n,n=z.natAbs:=⟨_,rfl⟩
 have HZ:Hid (Ig ng n=z):=by rw[hng,hn];exact AbX z
 unfold Ak
 rw[<-hn] at HL ⊢
 rw[<-hng]
 clear hng hn
 obtain⟨s,hs⟩:∃s,s=Dx n:=⟨_,rfl⟩
 have HLD:Hid (∀wa,Calls Tryz.prog 127 #[.string s] wa (Dn wa n)):=λwa=>by rw[hs];exact Vt n L wa HL.out hl
 rw[<-hs]
 clear hs
 go_enter func100,ntmps100
 go_wp2_with fail
 obtain⟨W,hW⟩:∃W,W=(w.alloc (.cells #[.bool ng,.string s] 70)).alloc (.cells #[.bool false,.slice none 0 0] 153):=⟨_,rfl⟩
 rw[<-hW]
 have hsW:W.heap.size=w.heap.size+2:=by rw[hW];simp
 have CW:Hid (∀wa,Below W.heap.size W wa->wa.heap[w.heap.size]?=some (.cells #[.bool ng,.string s] 70 (0,0))/\wa.heap[w.heap.size+1]?=some (.cells #[.bool false,.slice none 0 0] 153 (0,0))):=λwa h=>by
  rw[h.block _ ω,h.block _ ω,hW]
  exact Od w _ _
 have HBW:Hid (Below w.heap.size w W):=by unfold Hid;rw[hW];exact((Below.refl _ _).alloc (Nat.le_refl _) _).alloc (by simp) _
 clear hW
 refine Dc 5 9 (λw'=>Below W.heap.size W w') [is (.pointer (some ⟨w.heap.size,0,none⟩)),is (.bool ng),is (.pointer (some ⟨w.heap.size,1,none⟩)),is (.string s),Kt n] κ κ rfl δ ?hst ?h0 ?hop ?htail
 case hst=>
  simp only[List.mem_cons,List.mem_nil_iff,or_false,forall_eq_or_imp,forall_eq]
  exact⟨Ab _,Ab _,Ab _,Ab _,Fz _⟩
 case h0=>exact(Below.refl _ _).drew
 case hop=>
  refine⟨?_,?_,?_,?_,?_,trivial⟩
  · exact Ch 70 (.tmp 1) 0 (.pointer (some ⟨w.heap.size,0,none⟩)) (.pointer (some ⟨w.heap.size,0,none⟩)) rfl κ (λw=>by kernel_rfl) rfl
  · exact Bb 4 (.tmp 3) (.pointer (some ⟨w.heap.size,0,none⟩)) (.bool ng) rfl κ (λwa hC=>As wa κ (by simp[World.cell?,(CW.out wa hC).1])) rfl
  · exact Ch 70 (.tmp 1) 1 (.pointer (some ⟨w.heap.size,0,none⟩)) (.pointer (some ⟨w.heap.size,1,none⟩)) rfl κ (λw=>by kernel_rfl) rfl
  · exact Bb 9 (.tmp 5) (.pointer (some ⟨w.heap.size,1,none⟩)) (.string s) rfl κ (λwa hC=>As wa κ (by simp[World.cell?,(CW.out wa hC).1])) rfl
  · exact Cd 127 [.tmp 6] _ [.string s] rfl (λ_ _=>by kernel_rfl) ⟨κ,trivial⟩ (λwa hC=>(HLD.out wa).mono λ_ _ h=>h.word hC)
 case htail=>
 intro τ w2 hC hR
 have r1:τ 1= .bool ng:=hR 1 δ
 have r4:Kt n (τ 4) w2:=hR 4 δ
 obtain⟨mv,hmv⟩:∃mv,mv=τ 4:=⟨_,rfl⟩
 rw[<-hmv] at r4
 simp only[Bl,List.getElem?_toArray,List.getElem?_cons_succ,List.getElem?_cons_zero,Option.bind_some,Act.put,List.setIfInBounds_toArray,List.set_cons_succ,List.set_cons_zero,List.drop_succ_cons,List.drop_zero,r1,<-hmv]
 clear hR r1 hmv
 have HM:=Lib.hid r4
 obtain⟨A,c,rfl⟩:=r4.1.slice
 clear r4
 have h1:=(CW.out w2 hC).2
 have HB2:Hid (Below w.heap.size w w2):=HBW.out.trans (hC.mono HBW.out.size)
 have c0:w2.cell? ⟨w.heap.size+1,0,none⟩=some (.bool false):=by simp[World.cell?,h1]
 have c1:w2.cell? ⟨w.heap.size+1,1,none⟩=some (.slice none 0 0):=by simp[World.cell?,h1]
 have f0:w2.frozen? ⟨w.heap.size+1,0,none⟩=false:=by simp[World.frozen?,h1]
 have f1:w2.frozen? ⟨w.heap.size+1,1,none⟩=false:=by simp[World.frozen?,h1]
 have HH:=Lib.hid h1
 clear hC CW h1
 go_wp2_with fail
 obtain⟨w3,hw3⟩:∃w3,w3=(w2.setCell ⟨w.heap.size+1,0,none⟩ (.bool ng)).setCell ⟨w.heap.size+1,1,none⟩ (.slice A (Al n).length c):=⟨_,rfl⟩
 rw[<-hw3]
 obtain⟨k0,k1⟩:w3.cell? ⟨w.heap.size+1,0,none⟩=some (.bool ng)/\w3.cell? ⟨w.heap.size+1,1,none⟩=some (.slice A (Al n).length c):=by
  rw[hw3];exact Ey c0 c1
 refine bodyPost_ret (v:= .agg #[.bool ng,.slice A (Al n).length c]) (by simp[results,results100,go_sem,k0,k1]) rfl ?_
 rw[hw3]
 exact Ss HM.out HH.out trivial trivial HB2.out ω HZ.out
theorem Hw (w:World) (o o' o'':Obj):(((w.alloc o).alloc o').alloc o'').heap[w.heap.size]?=some o/\(((w.alloc o).alloc o').alloc o'').heap[w.heap.size+1]?=some o'/\(((w.alloc o).alloc o').alloc o'').heap[w.heap.size+2]?=some o'':=by
 have h:=Od w o o'
 refine⟨(Below.heap_alloc _ _ _ (by simp;omega)).trans h.1,(Below.heap_alloc _ _ _ (by simp)).trans h.2,?_⟩
 have:=heap_alloc_new ((w.alloc o).alloc o') o''
 rwa [World.size_alloc,World.size_alloc] at this
theorem Aw {w:World} {b:Nat} {x0 x1:Value} {t:TypeId} {fz:Nat×Nat} (h:w.heap[b]?=some (.cells #[x0,x1] t fz)):w.cell? ⟨b,0,none⟩=some x0/\w.cell? ⟨b,1,none⟩=some x1:=by
 constructor<;>simp[World.cell?,h]
theorem Dv {w:World} {b:Nat} {x0 x1:Value} {t:TypeId} (h:w.heap[b]?=some (.cells #[x0,x1] t (0,0))) (i:Nat):w.frozen? ⟨b,i,none⟩=false:=by simp[World.frozen?,h]
theorem Adu (z:Int) (v:Value) (w:World) (h:Jh v w z):Calls Tryz.prog 160 #[v] w (aJ w (-z)):=by
 obtain⟨ng,mv,n,rfl,hn,hz⟩:=h
 have HN:=Lib.hid hn
 have HZ:Hid (Ig (!ng) n= -z):=by unfold Hid;rw[<-hz];cases ng<;>simp[Ig]
 obtain⟨A,c,rfl⟩:=hn.1.slice
 clear hn hz
 go_enter func160,ntmps160
 go_upto_region 1 with fail
 obtain⟨W,hW⟩:∃W,W=(w.alloc (.cells #[.bool ng,.slice A (Al n).length c] 153)).alloc (.cells #[.bool false,.slice none 0 0] 153):=⟨_,rfl⟩
 rw[<-hW]
 have h2:=Od w (.cells #[.bool ng,.slice A (Al n).length c] 153) (.cells #[.bool false,.slice none 0 0] 153)
 rw[<-hW] at h2
 have HB:Hid (Below w.heap.size w W):=by unfold Hid;rw[hW];exact((Below.refl _ _).alloc (Nat.le_refl _) _).alloc (by simp) _
 clear hW
 obtain⟨a0,a1⟩:=Aw h2.1
 obtain⟨c0,c1⟩:=Aw h2.2
 have f0:=Dv h2.2 0
 have f1:=Dv h2.2 1
 have HH:=Lib.hid h2.2
 clear h2
 go_wp2_with fail
 obtain⟨w3,hw3⟩:∃w3,w3=(W.setCell ⟨w.heap.size+1,0,none⟩ (.bool (!ng))).setCell ⟨w.heap.size+1,1,none⟩ (.slice A (Al n).length c):=⟨_,rfl⟩
 rw[<-hw3]
 obtain⟨k0,k1⟩:w3.cell? ⟨w.heap.size+1,0,none⟩=some (.bool (!ng))/\w3.cell? ⟨w.heap.size+1,1,none⟩=some (.slice A (Al n).length c):=by
  rw[hw3];exact Ey c0 c1
 refine bodyPost_ret (v:= .agg #[.bool (!ng),.slice A (Al n).length c]) (by simp[results,results160,go_sem,k0,k1]) rfl ?_
 rw[hw3]
 exact Ss (HN.out.up (Nat.le_refl _) HB.out) HH.out trivial trivial HB.out ω HZ.out
theorem kL (b:Bool) (n m:Nat):Ig b (n+m)=Ig b n+Ig b m:=by unfold Ig;cases b<;>simp<;>omega
theorem sH {a b:Bool} (h:a≠b) {n m:Nat} (hm:m<=n):Ig a (n-m)=Ig a n+Ig b m:=by unfold Ig;cases a<;>cases b<;>simp at h ⊢<;>omega
theorem sI {a b:Bool} (h:a≠b) {n m:Nat} (hm:n<=m):Ig b (m-n)=Ig a n+Ig b m:=by unfold Ig;cases a<;>cases b<;>simp at h ⊢<;>omega
theorem AdK (a b:Bool) (n m:Nat):Ig (a != b) (n*m)=Ig a n*Ig b m:=by unfold Ig;cases a<;>cases b<;>simp[Int.neg_mul,Int.mul_neg]
theorem Qc {neg:Bool} {n:Nat} {z:Int} {k:Nat} (h:Ig neg n=z) (hk:(Al z.natAbs).length<=k):(Al n).length<=k:=by rw[<-h,Zr] at hk;exact hk
theorem Acy (x y:Int) (vx vy:Value) (w:World) (hx:Jh vx w x) (hy:Jh vy w y) (hl:(Al x.natAbs).length<=40000) (hl':(Al y.natAbs).length<=40000):Calls Tryz.prog 148 #[vx,vy] w (aJ w (x*y)):=by
 obtain⟨ng,mv,n,rfl,hn,hz⟩:=hx
 obtain⟨mg,mv',m,rfl,hm,hz'⟩:=hy
 have hln:=Qc hz hl
 have hlm:=Qc hz' hl'
 have HZ:=Lib.hid hz
 have HZ':=Lib.hid hz'
 have HN:=Lib.hid hn
 have HM:=Lib.hid hm
 obtain⟨A,c,rfl⟩:=hn.1.slice
 obtain⟨A',c',rfl⟩:=hm.1.slice
 have HLN:=Lib.hid hln
 have HLM:=Lib.hid hlm
 clear hn hm hz hz' hl hl' hln hlm
 obtain⟨W,hW⟩:∃W,W=((w.alloc (.cells #[.bool ng,.slice A (Al n).length c] 153)).alloc (.cells #[.bool mg,.slice A' (Al m).length c'] 153)).alloc (.cells #[.bool false,.slice none 0 0] 153):=⟨_,rfl⟩
 have h3:=Hw w (.cells #[.bool ng,.slice A (Al n).length c] 153) (.cells #[.bool mg,.slice A' (Al m).length c'] 153) (.cells #[.bool false,.slice none 0 0] 153)
 rw[<-hW] at h3
 have hsW:W.heap.size=w.heap.size+3:=by rw[hW];simp
 have HB:Hid (Below w.heap.size w W):=by unfold Hid;rw[hW];exact(((Below.refl _ _).alloc (Nat.le_refl _) _).alloc (by simp) _).alloc (by simp;omega) _
 have HNW:Hid (Bi W 0 W.heap.size (.slice A (Al n).length c) n):=HN.out.up (Nat.le_refl _) HB.out
 have HMW:Hid (Bi W 0 W.heap.size (.slice A' (Al m).length c') m):=HM.out.up (Nat.le_refl _) HB.out
 have CW:Hid (∀wa,Below W.heap.size W wa->wa.heap[w.heap.size]?=some (.cells #[.bool ng,.slice A (Al n).length c] 153 (0,0))/\wa.heap[w.heap.size+1]?=some (.cells #[.bool mg,.slice A' (Al m).length c'] 153 (0,0))/\wa.heap[w.heap.size+2]?=some (.cells #[.bool false,.slice none 0 0] 153 (0,0))):=λwa h=>by
  rw[h.block _ ω,h.block _ ω,h.block _ ω]
  exact h3
 obtain⟨a0,a1⟩:=Aw h3.1
 obtain⟨b0,b1⟩:=Aw h3.2.1
 clear h3
 have HMUL:Hid (∀wa,Below W.heap.size W wa->Calls Tryz.prog 162 #[.slice A (Al n).length c,.slice A' (Al m).length c'] wa (Dn wa (n*m))):=λwa h=>
  jO n m _ _ 0 W.heap.size 0 W.heap.size wa (HNW.out.below h) (HMW.out.below h) h.size h.size (by have:=HLN.out;omega) (by have:=HLM.out;omega)
 go_enter func148,ntmps148
 go_upto_region 1 with fail
 rw[<-hW]
 clear hW a0 a1 b0 b1
 refine Dc 10 16 (λw'=>Below W.heap.size W w') [is (.pointer (some ⟨w.heap.size,0,none⟩)),is (.bool ng),is (.pointer (some ⟨w.heap.size+1,0,none⟩)),is (.bool mg),is (.bool (ng != mg)),is (.pointer (some ⟨w.heap.size,1,none⟩)),is (.slice A (Al n).length c),is (.pointer (some ⟨w.heap.size+1,1,none⟩)),is (.slice A' (Al m).length c'),Kt (n*m)] κ κ rfl δ ?hst ?h0 ?hop ?htail
 case hst=>
  simp only[List.mem_cons,List.mem_nil_iff,or_false,forall_eq_or_imp,forall_eq]
  exact⟨Ab _,Ab _,Ab _,Ab _,Ab _,Ab _,Ab _,Ab _,Ab _,Fz _⟩
 case h0=>exact(Below.refl _ _).drew
 case hop=>
  refine⟨?_,?_,?_,?_,?_,?_,?_,?_,?_,?_,trivial⟩
  · exact Ch 153 (.tmp 2) 0 (.pointer (some ⟨w.heap.size,0,none⟩)) (.pointer (some ⟨w.heap.size,0,none⟩)) rfl κ (λw=>by kernel_rfl) rfl
  · exact Bb 4 (.tmp 5) (.pointer (some ⟨w.heap.size,0,none⟩)) (.bool ng) rfl κ (λwa hC=>As wa κ ((Aw (CW.out wa hC).1).1)) rfl
  · exact Ch 153 (.tmp 3) 0 (.pointer (some ⟨w.heap.size+1,0,none⟩)) (.pointer (some ⟨w.heap.size+1,0,none⟩)) rfl κ (λw=>by kernel_rfl) rfl
  · exact Bb 4 (.tmp 7) (.pointer (some ⟨w.heap.size+1,0,none⟩)) (.bool mg) rfl κ (λwa hC=>As wa κ ((Aw (CW.out wa hC).2.1).1)) rfl
  · exact Vz 6 8 (.bool ng) (.bool mg) (.bool (ng != mg)) rfl κ κ (λa wa _ e1 e2=>by cases ng<;>cases mg<;>go_simp<;>rfl) rfl
  · exact Ch 153 (.tmp 2) 1 (.pointer (some ⟨w.heap.size,0,none⟩)) (.pointer (some ⟨w.heap.size,1,none⟩)) rfl κ (λw=>by kernel_rfl) rfl
  · exact Bb 151 (.tmp 10) (.pointer (some ⟨w.heap.size,1,none⟩)) (.slice A (Al n).length c) rfl κ (λwa hC=>As wa κ ((Aw (CW.out wa hC).1).2)) rfl
  · exact Ch 153 (.tmp 3) 1 (.pointer (some ⟨w.heap.size+1,0,none⟩)) (.pointer (some ⟨w.heap.size+1,1,none⟩)) rfl κ (λw=>by kernel_rfl) rfl
  · exact Bb 151 (.tmp 12) (.pointer (some ⟨w.heap.size+1,1,none⟩)) (.slice A' (Al m).length c') rfl κ (λwa hC=>As wa κ ((Aw (CW.out wa hC).2.1).2)) rfl
  · exact Cd 162 [.tmp 11,.tmp 13] _ [.slice A (Al n).length c,.slice A' (Al m).length c'] rfl (λ_ _=>by kernel_rfl) ⟨κ,κ,trivial⟩ (λwa hC=>(HMUL.out wa hC).mono λ_ _ h=>h.word hC)
 case htail=>
 intro τ w2 hC hR
 have r1:τ 4= .bool (ng != mg):=hR 4 δ
 have r4:Kt (n*m) (τ 9) w2:=hR 9 δ
 obtain⟨mv,hmv⟩:∃mv,mv=τ 9:=⟨_,rfl⟩
 rw[<-hmv] at r4
 simp only[Bl,List.getElem?_toArray,List.getElem?_cons_succ,List.getElem?_cons_zero,Option.bind_some,Act.put,List.setIfInBounds_toArray,List.set_cons_succ,List.set_cons_zero,List.drop_succ_cons,List.drop_zero,r1,<-hmv]
 clear hR r1 hmv
 obtain⟨k,hk⟩:∃k,k=n*m:=⟨_,rfl⟩
 obtain⟨bb,hbb⟩:∃bb,bb=(ng != mg):=⟨_,rfl⟩
 rw[<-hk] at r4
 rw[<-hbb]
 have HKZ:Hid (Ig bb k=x*y):=by unfold Hid;rw[hk,hbb];exact(AdK ng mg n m).trans (by rw[HZ.out,HZ'.out])
 clear hk hbb
 have HR4:=Lib.hid r4
 obtain⟨A2,c2,rfl⟩:=r4.1.slice
 clear r4
 have h1:=(CW.out w2 hC).2.2
 have HB2:Hid (Below w.heap.size w w2):=HB.out.trans (hC.mono HB.out.size)
 obtain⟨c0,c1⟩:=Aw h1
 have f0:=Dv h1 0
 have f1:=Dv h1 1
 have HH:=Lib.hid h1
 clear hC h1
 go_wp2_with fail
 obtain⟨w3,hw3⟩:∃w3,w3=(w2.setCell ⟨w.heap.size+2,0,none⟩ (.bool bb)).setCell ⟨w.heap.size+2,1,none⟩ (.slice A2 (Al k).length c2):=⟨_,rfl⟩
 rw[<-hw3]
 obtain⟨k0,k1⟩:w3.cell? ⟨w.heap.size+2,0,none⟩=some (.bool bb)/\w3.cell? ⟨w.heap.size+2,1,none⟩=some (.slice A2 (Al k).length c2):=by
  rw[hw3];exact Ey c0 c1
 refine bodyPost_ret (v:= .agg #[.bool bb,.slice A2 (Al k).length c2]) (by simp[results,results148,go_sem,k0,k1]) rfl ?_
 rw[hw3]
 exact Ss HR4.out HH.out trivial trivial HB2.out ω HKZ.out
theorem pU (x y:Int) (vx vy:Value) (w:World) (hx:Jh vx w x) (hy:Jh vy w y) (hl:(Al x.natAbs).length<=40000) (hl':(Al y.natAbs).length<=40000):Calls Tryz.prog 130 #[vx,vy] w (aJ w (x+y)):=by
 obtain⟨ng,mv,n,rfl,hn,hz⟩:=hx
 obtain⟨mg,mv',m,rfl,hm,hz'⟩:=hy
 have hln:=Qc hz hl
 have hlm:=Qc hz' hl'
 have HZ:=Lib.hid hz
 have HZ':=Lib.hid hz'
 have HN:=Lib.hid hn
 have HM:=Lib.hid hm
 obtain⟨A,c,rfl⟩:=hn.1.slice
 obtain⟨A',c',rfl⟩:=hm.1.slice
 have HLN:=Lib.hid hln
 have HLM:=Lib.hid hlm
 clear hn hm hz hz' hl hl' hln hlm
 obtain⟨W,hW⟩:∃W,W=((w.alloc (.cells #[.bool ng,.slice A (Al n).length c] 153)).alloc (.cells #[.bool mg,.slice A' (Al m).length c'] 153)).alloc (.cells #[.bool false,.slice none 0 0] 153):=⟨_,rfl⟩
 have h3:=Hw w (.cells #[.bool ng,.slice A (Al n).length c] 153) (.cells #[.bool mg,.slice A' (Al m).length c'] 153) (.cells #[.bool false,.slice none 0 0] 153)
 rw[<-hW] at h3
 have hsW:W.heap.size=w.heap.size+3:=by rw[hW];simp
 have HB:Hid (Below w.heap.size w W):=by unfold Hid;rw[hW];exact(((Below.refl _ _).alloc (Nat.le_refl _) _).alloc (by simp) _).alloc (by simp;omega) _
 have HNW:Hid (Bi W 0 W.heap.size (.slice A (Al n).length c) n):=HN.out.up (Nat.le_refl _) HB.out
 have HMW:Hid (Bi W 0 W.heap.size (.slice A' (Al m).length c') m):=HM.out.up (Nat.le_refl _) HB.out
 have CW:Hid (∀wa,Below W.heap.size W wa->wa.heap[w.heap.size]?=some (.cells #[.bool ng,.slice A (Al n).length c] 153 (0,0))/\wa.heap[w.heap.size+1]?=some (.cells #[.bool mg,.slice A' (Al m).length c'] 153 (0,0))/\wa.heap[w.heap.size+2]?=some (.cells #[.bool false,.slice none 0 0] 153 (0,0))):=λwa h=>by
  rw[h.block _ ω,h.block _ ω,h.block _ ω]
  exact h3
 obtain⟨a0,a1⟩:=Aw h3.1
 obtain⟨b0,b1⟩:=Aw h3.2.1
 clear h3
 have HADD:Hid (∀wa,Below W.heap.size W wa->Calls Tryz.prog 153 #[.slice A (Al n).length c,.slice A' (Al m).length c'] wa (Dn wa (n+m))):=λwa h=>
  tL n m _ _ 0 W.heap.size 0 W.heap.size wa (HNW.out.below h) (HMW.out.below h) h.size h.size (by have:=HLN.out;omega) (by have:=HLM.out;omega)
 by_cases hs:ng=mg
 ·
  have hsb:(ng==mg)=true:=by rw[hs];simp
  have HS:=Lib.hid hs
  clear hs
  go_enter func130,ntmps130
  go_upto_region 1 with fail
  rw[<-hW]
  clear hW
  go_wp2_with fail
  clear a0 a1 b0 b1
  refine Dc 7 42 (λw'=>Below W.heap.size W w') [is (.pointer (some ⟨w.heap.size,0,none⟩)),is (.bool ng),is (.pointer (some ⟨w.heap.size,1,none⟩)),is (.slice A (Al n).length c),is (.pointer (some ⟨w.heap.size+1,1,none⟩)),is (.slice A' (Al m).length c'),Kt (n+m)] κ κ rfl δ ?hst ?h0 ?hop ?htail
  case hst=>
   simp only[List.mem_cons,List.mem_nil_iff,or_false,forall_eq_or_imp,forall_eq]
   exact⟨Ab _,Ab _,Ab _,Ab _,Ab _,Ab _,Fz _⟩
  case h0=>exact(Below.refl _ _).drew
  case hop=>
   refine⟨?_,?_,?_,?_,?_,?_,?_,trivial⟩
   · exact Ch 153 (.tmp 2) 0 (.pointer (some ⟨w.heap.size,0,none⟩)) (.pointer (some ⟨w.heap.size,0,none⟩)) rfl κ (λw=>by kernel_rfl) rfl
   · exact Bb 4 (.tmp 11) (.pointer (some ⟨w.heap.size,0,none⟩)) (.bool ng) rfl κ (λwa hC=>As wa κ ((Aw (CW.out wa hC).1).1)) rfl
   · exact Ch 153 (.tmp 2) 1 (.pointer (some ⟨w.heap.size,0,none⟩)) (.pointer (some ⟨w.heap.size,1,none⟩)) rfl κ (λw=>by kernel_rfl) rfl
   · exact Bb 151 (.tmp 13) (.pointer (some ⟨w.heap.size,1,none⟩)) (.slice A (Al n).length c) rfl κ (λwa hC=>As wa κ ((Aw (CW.out wa hC).1).2)) rfl
   · exact Ch 153 (.tmp 3) 1 (.pointer (some ⟨w.heap.size+1,0,none⟩)) (.pointer (some ⟨w.heap.size+1,1,none⟩)) rfl κ (λw=>by kernel_rfl) rfl
   · exact Bb 151 (.tmp 15) (.pointer (some ⟨w.heap.size+1,1,none⟩)) (.slice A' (Al m).length c') rfl κ (λwa hC=>As wa κ ((Aw (CW.out wa hC).2.1).2)) rfl
   · exact Cd 153 [.tmp 14,.tmp 16] _ [.slice A (Al n).length c,.slice A' (Al m).length c'] rfl (λ_ _=>by kernel_rfl) ⟨κ,κ,trivial⟩ (λwa hC=>(HADD.out wa hC).mono λ_ _ h=>h.word hC)
  case htail=>
  intro τ w2 hC hR
  have r1:τ 1= .bool ng:=hR 1 δ
  have r4:Kt (n+m) (τ 6) w2:=hR 6 δ
  obtain⟨mv,hmv⟩:∃mv,mv=τ 6:=⟨_,rfl⟩
  rw[<-hmv] at r4
  simp only[Bl,List.getElem?_toArray,List.getElem?_cons_succ,List.getElem?_cons_zero,Option.bind_some,Act.put,List.setIfInBounds_toArray,List.set_cons_succ,List.set_cons_zero,List.drop_succ_cons,List.drop_zero,r1,<-hmv]
  clear hR r1 hmv
  obtain⟨k,hk⟩:∃k,k=n+m:=⟨_,rfl⟩
  obtain⟨bb,hbb⟩:∃bb,bb=ng:=⟨_,rfl⟩
  rw[<-hk] at r4
  rw[<-hbb]
  have HKZ:Hid (Ig bb k=x+y):=by unfold Hid;rw[hk,hbb];exact(kL ng n m).trans (by rw[HZ.out,HS.out,HZ'.out])
  clear hk hbb
  have HR4:=Lib.hid r4
  obtain⟨A2,c2,rfl⟩:=r4.1.slice
  clear r4
  have h1:=(CW.out w2 hC).2.2
  have HB2:Hid (Below w.heap.size w w2):=HB.out.trans (hC.mono HB.out.size)
  obtain⟨c0,c1⟩:=Aw h1
  have f0:=Dv h1 0
  have f1:=Dv h1 1
  have HH:=Lib.hid h1
  clear hC h1
  go_wp2_with fail
  obtain⟨w3,hw3⟩:∃w3,w3=(w2.setCell ⟨w.heap.size+2,0,none⟩ (.bool bb)).setCell ⟨w.heap.size+2,1,none⟩ (.slice A2 (Al k).length c2):=⟨_,rfl⟩
  rw[<-hw3]
  obtain⟨k0,k1⟩:w3.cell? ⟨w.heap.size+2,0,none⟩=some (.bool bb)/\w3.cell? ⟨w.heap.size+2,1,none⟩=some (.slice A2 (Al k).length c2):=by
   rw[hw3];exact Ey c0 c1
  refine bodyPost_ret (v:= .agg #[.bool bb,.slice A2 (Al k).length c2]) (by simp[results,results130,go_sem,k0,k1]) rfl ?_
  rw[hw3]
  exact Ss HR4.out HH.out trivial trivial HB2.out ω HKZ.out
 ·
  have hsb:(ng==mg)=false:=by simp[hs]
  have HS:=Lib.hid hs
  clear hs
  have HCMP:=Lib.hid (Ns n m _ _ 0 W.heap.size 0 W.heap.size W HNW.out HMW.out (by have:=HLN.out;omega) (by have:=HLM.out;omega))
  go_enter func130,ntmps130
  go_upto_region 1 with fail
  rw[<-hW]
  clear hW
  go_wp2_with fail
  refine HCMP.out.mono ?_
  rintro e w1 ⟨r,q1,rfl,hw1,HR⟩
  have HB1:Hid (Below w.heap.size w w1):=by rw[hw1];exact Ka HB.out q1
  have hs1:w1.heap.size=w.heap.size+3:=by rw[hw1];simpa using hsW
  have HN1:Hid (Bi w1 0 w1.heap.size (.slice A (Al n).length c) n):=by rw[hs1,<-hsW,hw1];exact HNW.out.drewN q1
  have HM1:Hid (Bi w1 0 w1.heap.size (.slice A' (Al m).length c') m):=by rw[hs1,<-hsW,hw1];exact HMW.out.drewN q1
  have CW1:Hid (∀wa,Below w1.heap.size w1 wa->wa.heap[w.heap.size]?=some (.cells #[.bool ng,.slice A (Al n).length c] 153 (0,0))/\wa.heap[w.heap.size+1]?=some (.cells #[.bool mg,.slice A' (Al m).length c'] 153 (0,0))/\wa.heap[w.heap.size+2]?=some (.cells #[.bool false,.slice none 0 0] 153 (0,0))):=λwa h=>by
   rw[h.block _ ω,h.block _ ω,h.block _ ω,hw1]
   simpa using CW.out W (Below.refl _ _)
  clear hw1 a0 a1 b0 b1 CW HNW HMW HB HADD hsW
  by_cases hr:r<0
  ·
   have HLT:Hid (n<m):=HR.lt.1 hr
   have HSUB:Hid (∀wa,Below w1.heap.size w1 wa->Calls Tryz.prog 154 #[.slice A' (Al m).length c',.slice A (Al n).length c] wa (Dn wa (m-n))):=λwa h=>
    Qd m n _ _ 0 w1.heap.size 0 w1.heap.size wa (HM1.out.below h) (HN1.out.below h) h.size h.size (by have:=HLM.out;omega) (Nat.le_of_lt HLT.out)
   have hr0:¬(0:Int)<=r:=by omega
   clear HR hr
   go_wp2_with fail
   refine Dc 7 42 (λw'=>Below w1.heap.size w1 w') [is (.pointer (some ⟨w.heap.size+1,0,none⟩)),is (.bool mg),is (.pointer (some ⟨w.heap.size+1,1,none⟩)),is (.slice A' (Al m).length c'),is (.pointer (some ⟨w.heap.size,1,none⟩)),is (.slice A (Al n).length c),Kt (m-n)] κ κ rfl δ ?hst ?h0 ?hop ?htail
   case hst=>
    simp only[List.mem_cons,List.mem_nil_iff,or_false,forall_eq_or_imp,forall_eq]
    exact⟨Ab _,Ab _,Ab _,Ab _,Ab _,Ab _,Fz _⟩
   case h0=>exact(Below.refl _ _).drew
   case hop=>
    refine⟨?_,?_,?_,?_,?_,?_,?_,trivial⟩
    · exact Ch 153 (.tmp 3) 0 (.pointer (some ⟨w.heap.size+1,0,none⟩)) (.pointer (some ⟨w.heap.size+1,0,none⟩)) rfl κ (λw=>by kernel_rfl) rfl
    · exact Bb 4 (.tmp 34) (.pointer (some ⟨w.heap.size+1,0,none⟩)) (.bool mg) rfl κ (λwa hC=>As wa κ ((Aw (CW1.out wa hC).2.1).1)) rfl
    · exact Ch 153 (.tmp 3) 1 (.pointer (some ⟨w.heap.size+1,0,none⟩)) (.pointer (some ⟨w.heap.size+1,1,none⟩)) rfl κ (λw=>by kernel_rfl) rfl
    · exact Bb 151 (.tmp 36) (.pointer (some ⟨w.heap.size+1,1,none⟩)) (.slice A' (Al m).length c') rfl κ (λwa hC=>As wa κ ((Aw (CW1.out wa hC).2.1).2)) rfl
    · exact Ch 153 (.tmp 2) 1 (.pointer (some ⟨w.heap.size,0,none⟩)) (.pointer (some ⟨w.heap.size,1,none⟩)) rfl κ (λw=>by kernel_rfl) rfl
    · exact Bb 151 (.tmp 38) (.pointer (some ⟨w.heap.size,1,none⟩)) (.slice A (Al n).length c) rfl κ (λwa hC=>As wa κ ((Aw (CW1.out wa hC).1).2)) rfl
    · exact Cd 154 [.tmp 37,.tmp 39] _ [.slice A' (Al m).length c',.slice A (Al n).length c] rfl (λ_ _=>by kernel_rfl) ⟨κ,κ,trivial⟩ (λwa hC=>(HSUB.out wa hC).mono λ_ _ h=>h.word hC)
   case htail=>
   intro τ w2 hC hR
   have r1:τ 1= .bool mg:=hR 1 δ
   have r4:Kt (m-n) (τ 6) w2:=hR 6 δ
   obtain⟨mv,hmv⟩:∃mv,mv=τ 6:=⟨_,rfl⟩
   rw[<-hmv] at r4
   simp only[Bl,List.getElem?_toArray,List.getElem?_cons_succ,List.getElem?_cons_zero,Option.bind_some,Act.put,List.setIfInBounds_toArray,List.set_cons_succ,List.set_cons_zero,List.drop_succ_cons,List.drop_zero,r1,<-hmv]
   clear hR r1 hmv
   obtain⟨k,hk⟩:∃k,k=m-n:=⟨_,rfl⟩
   obtain⟨bb,hbb⟩:∃bb,bb=mg:=⟨_,rfl⟩
   rw[<-hk] at r4
   rw[<-hbb]
   have HKZ:Hid (Ig bb k=x+y):=by unfold Hid;rw[hk,hbb];exact(sI HS.out (Nat.le_of_lt HLT.out)).trans (by rw[HZ.out,HZ'.out])
   clear hk hbb
   have HR4:=Lib.hid r4
   obtain⟨A2,c2,rfl⟩:=r4.1.slice
   clear r4
   have h1:=(CW1.out w2 hC).2.2
   have HB2:Hid (Below w.heap.size w w2):=HB1.out.trans (hC.mono HB1.out.size)
   obtain⟨c0,c1⟩:=Aw h1
   have f0:=Dv h1 0
   have f1:=Dv h1 1
   have HH:=Lib.hid h1
   clear hC h1
   go_wp2_with fail
   obtain⟨w3,hw3⟩:∃w3,w3=(w2.setCell ⟨w.heap.size+2,0,none⟩ (.bool bb)).setCell ⟨w.heap.size+2,1,none⟩ (.slice A2 (Al k).length c2):=⟨_,rfl⟩
   rw[<-hw3]
   obtain⟨k0,k1⟩:w3.cell? ⟨w.heap.size+2,0,none⟩=some (.bool bb)/\w3.cell? ⟨w.heap.size+2,1,none⟩=some (.slice A2 (Al k).length c2):=by
    rw[hw3];exact Ey c0 c1
   refine bodyPost_ret (v:= .agg #[.bool bb,.slice A2 (Al k).length c2]) (by simp[results,results130,go_sem,k0,k1]) rfl ?_
   rw[hw3]
   exact Ss HR4.out HH.out trivial trivial HB2.out ω HKZ.out
  ·
   have HLE:Hid (m<=n):=by unfold Hid;have:=HR.lt;omega
   have HSUB:Hid (∀wa,Below w1.heap.size w1 wa->Calls Tryz.prog 154 #[.slice A (Al n).length c,.slice A' (Al m).length c'] wa (Dn wa (n-m))):=λwa h=>
    Qd n m _ _ 0 w1.heap.size 0 w1.heap.size wa (HN1.out.below h) (HM1.out.below h) h.size h.size (by have:=HLN.out;omega) HLE.out
   have hr0:(0:Int)<=r:=by omega
   clear HR hr
   go_wp2_with fail
   refine Dc 7 42 (λw'=>Below w1.heap.size w1 w') [is (.pointer (some ⟨w.heap.size,0,none⟩)),is (.bool ng),is (.pointer (some ⟨w.heap.size,1,none⟩)),is (.slice A (Al n).length c),is (.pointer (some ⟨w.heap.size+1,1,none⟩)),is (.slice A' (Al m).length c'),Kt (n-m)] κ κ rfl δ ?hst ?h0 ?hop ?htail
   case hst=>
    simp only[List.mem_cons,List.mem_nil_iff,or_false,forall_eq_or_imp,forall_eq]
    exact⟨Ab _,Ab _,Ab _,Ab _,Ab _,Ab _,Fz _⟩
   case h0=>exact(Below.refl _ _).drew
   case hop=>
    refine⟨?_,?_,?_,?_,?_,?_,?_,trivial⟩
    · exact Ch 153 (.tmp 2) 0 (.pointer (some ⟨w.heap.size,0,none⟩)) (.pointer (some ⟨w.heap.size,0,none⟩)) rfl κ (λw=>by kernel_rfl) rfl
    · exact Bb 4 (.tmp 26) (.pointer (some ⟨w.heap.size,0,none⟩)) (.bool ng) rfl κ (λwa hC=>As wa κ ((Aw (CW1.out wa hC).1).1)) rfl
    · exact Ch 153 (.tmp 2) 1 (.pointer (some ⟨w.heap.size,0,none⟩)) (.pointer (some ⟨w.heap.size,1,none⟩)) rfl κ (λw=>by kernel_rfl) rfl
    · exact Bb 151 (.tmp 28) (.pointer (some ⟨w.heap.size,1,none⟩)) (.slice A (Al n).length c) rfl κ (λwa hC=>As wa κ ((Aw (CW1.out wa hC).1).2)) rfl
    · exact Ch 153 (.tmp 3) 1 (.pointer (some ⟨w.heap.size+1,0,none⟩)) (.pointer (some ⟨w.heap.size+1,1,none⟩)) rfl κ (λw=>by kernel_rfl) rfl
    · exact Bb 151 (.tmp 30) (.pointer (some ⟨w.heap.size+1,1,none⟩)) (.slice A' (Al m).length c') rfl κ (λwa hC=>As wa κ ((Aw (CW1.out wa hC).2.1).2)) rfl
    · exact Cd 154 [.tmp 29,.tmp 31] _ [.slice A (Al n).length c,.slice A' (Al m).length c'] rfl (λ_ _=>by kernel_rfl) ⟨κ,κ,trivial⟩ (λwa hC=>(HSUB.out wa hC).mono λ_ _ h=>h.word hC)
   case htail=>
   intro τ w2 hC hR
   have r1:τ 1= .bool ng:=hR 1 δ
   have r4:Kt (n-m) (τ 6) w2:=hR 6 δ
   obtain⟨mv,hmv⟩:∃mv,mv=τ 6:=⟨_,rfl⟩
   rw[<-hmv] at r4
   simp only[Bl,List.getElem?_toArray,List.getElem?_cons_succ,List.getElem?_cons_zero,Option.bind_some,Act.put,List.setIfInBounds_toArray,List.set_cons_succ,List.set_cons_zero,List.drop_succ_cons,List.drop_zero,r1,<-hmv]
   clear hR r1 hmv
   obtain⟨k,hk⟩:∃k,k=n-m:=⟨_,rfl⟩
   obtain⟨bb,hbb⟩:∃bb,bb=ng:=⟨_,rfl⟩
   rw[<-hk] at r4
   rw[<-hbb]
   have HKZ:Hid (Ig bb k=x+y):=by unfold Hid;rw[hk,hbb];exact(sH HS.out HLE.out).trans (by rw[HZ.out,HZ'.out])
   clear hk hbb
   have HR4:=Lib.hid r4
   obtain⟨A2,c2,rfl⟩:=r4.1.slice
   clear r4
   have h1:=(CW1.out w2 hC).2.2
   have HB2:Hid (Below w.heap.size w w2):=HB1.out.trans (hC.mono HB1.out.size)
   obtain⟨c0,c1⟩:=Aw h1
   have f0:=Dv h1 0
   have f1:=Dv h1 1
   have HH:=Lib.hid h1
   clear hC h1
   go_wp2_with fail
   obtain⟨w3,hw3⟩:∃w3,w3=(w2.setCell ⟨w.heap.size+2,0,none⟩ (.bool bb)).setCell ⟨w.heap.size+2,1,none⟩ (.slice A2 (Al k).length c2):=⟨_,rfl⟩
   rw[<-hw3]
   obtain⟨k0,k1⟩:w3.cell? ⟨w.heap.size+2,0,none⟩=some (.bool bb)/\w3.cell? ⟨w.heap.size+2,1,none⟩=some (.slice A2 (Al k).length c2):=by
    rw[hw3];exact Ey c0 c1
   refine bodyPost_ret (v:= .agg #[.bool bb,.slice A2 (Al k).length c2]) (by simp[results,results130,go_sem,k0,k1]) rfl ?_
   rw[hw3]
   exact Ss HR4.out HH.out trivial trivial HB2.out ω HKZ.out
def dI (z:Int):Value:=if bitLen z.natAbs<=65536 then .tuple #[Ak z,.int .i64 0] else .tuple #[Ak 0,.int .i64 7]
theorem Pf {z:Int} (h:bitLen z.natAbs<=65536):dI z= .tuple #[Ak z,.int .i64 0]:=by unfold dI;rw[if_pos h]
def tK (w:World) (z:Int) (e:Ending) (w':World):Prop:=e= .returned (dI z)/\Below w.heap.size w w'
theorem mA:Dx 0=⟨#[]⟩:=by unfold Dx;rw[Np]
theorem AdL {neg:Bool} {n:Nat}:decide (Ig neg n<0)=(neg&&decide (0<n)):=by unfold Ig;cases neg<;>simp<;>omega
theorem oV (z:Int) (v:Value) (w:World) (h:Jh v w z):Calls Tryz.prog 161 #[v] w λe w'=>e= .returned (.int .i64 z.sign)/\Below w.heap.size w w':=by
 obtain⟨ng,mv,n,rfl,hn,hz⟩:=h
 have HZ:=Lib.hid hz
 obtain⟨A,c,rfl⟩:=hn.1.slice
 clear hn hz
 have hbw:Below w.heap.size w (w.alloc (.cells #[.bool ng,.slice A (Al n).length c] 153)):=(Below.refl _ _).alloc (Nat.le_refl _) _
 have HBW:=Lib.hid hbw
 clear hbw
 by_cases h0:n=0
 ·
  have hl:(((Al n).length:Int)==0)=true:=by rw[h0,Db];rfl
  have HS:Hid (z.sign=0):=by unfold Hid;rw[<-HZ.out,h0];cases ng<;>rfl
  clear h0
  go_enter func161,ntmps161
  go_wp2_with fail
  go_ret
  exact⟨Zq HS.out.symm,HBW.out⟩
 ·
  have hl:(((Al n).length:Int)==0)=false:=by
   have:=List.length_pos_iff.2 λe=>h0 (Iu.1 e)
   rw[beq_eq_false_iff_ne];omega
  have hnp:0<n:=by omega
  cases ng
  ·
   have HS:Hid (z.sign=1):=by
    unfold Hid;rw[<-HZ.out];unfold Ig;exact Int.sign_eq_one_of_pos (by simp;omega)
   clear h0
   go_enter func161,ntmps161
   go_wp2_with fail
   go_ret
   exact⟨Zq HS.out.symm,HBW.out⟩
  ·
   have HS:Hid (z.sign= -1):=by
    unfold Hid;rw[<-HZ.out];unfold Ig;exact Int.sign_eq_neg_one_of_neg (by simp;omega)
   clear h0
   go_enter func161,ntmps161
   go_wp2_with fail
   go_ret
   exact⟨Zq HS.out.symm,HBW.out⟩
theorem Pg (z:Int) (v:Value) (w:World) (h:Jh v w z) (hl:(Al z.natAbs).length<=40000):Calls Tryz.prog 125 #[v] w (tK w z):=by
 obtain⟨ng,mv,n,rfl,hn,hz⟩:=h
 have HLN:=Lib.hid (Qc hz hl)
 have hza:z.natAbs=n:=by rw[<-hz,Zr]
 have hneg:decide (z<0)=(ng&&decide (0<n)):=by rw[<-hz,AdL]
 have HN:=Lib.hid hn
 obtain⟨A,c,rfl⟩:=hn.1.slice
 have HWZ:Hid (Ak z= .agg #[.bool (ng&&decide (0<n)),.string (Dx n)]):=by unfold Hid Ak;rw[hneg,hza]
 have HWR:Hid (dI z=if bitLen n<=65536 then .tuple #[Ak z,.int .i64 0] else .tuple #[Ak 0,.int .i64 7]):=by unfold Hid dI;rw[hza]
 clear hn hz hl hza hneg
 obtain⟨W,hW⟩:∃W,W=(w.alloc (.cells #[.bool ng,.slice A (Al n).length c] 153)).alloc (.cells #[.bool false,.string ⟨#[]⟩] 70):=⟨_,rfl⟩
 have h2:=Od w (.cells #[.bool ng,.slice A (Al n).length c] 153) (.cells #[.bool false,.string ⟨#[]⟩] 70)
 rw[<-hW] at h2
 have hsW:W.heap.size=w.heap.size+2:=by rw[hW];simp
 have HB:Hid (Below w.heap.size w W):=by unfold Hid;rw[hW];exact((Below.refl _ _).alloc (Nat.le_refl _) _).alloc (by simp) _
 have HNW:Hid (Bi W 0 W.heap.size (.slice A (Al n).length c) n):=HN.out.up (Nat.le_refl _) HB.out
 have CW:Hid (∀wa,Below W.heap.size W wa->wa.heap[w.heap.size]?=some (.cells #[.bool ng,.slice A (Al n).length c] 153 (0,0))/\wa.heap[w.heap.size+1]?=some (.cells #[.bool false,.string ⟨#[]⟩] 70 (0,0))):=λwa h=>by
  rw[h.block _ ω,h.block _ ω]
  exact h2
 obtain⟨a0,a1⟩:=Aw h2.1
 obtain⟨c0,c1⟩:=Aw h2.2
 have f0:=Dv h2.2 0
 have f1:=Dv h2.2 1
 have HSZ:=Lib.hid (cR n (.slice A (Al n).length c) 0 W.heap.size W HNW.out (by have:=HLN.out;omega))
 clear h2
 obtain⟨B,hB⟩:∃B,B=bitLen n:=⟨_,rfl⟩
 rw[<-hB] at HSZ HWR
 have HBL:=Lib.hid hB
 clear hB
 go_enter func125,ntmps125
 go_upto_region 1 with fail
 rw[<-hW]
 clear hW
 go_wp2_with fail
 refine HSZ.out.mono ?_
 rintro e w' ⟨rfl,rfl⟩
 by_cases hb:B<=65536
 ·
  have hbi:¬(65536:Int)<(B:Int):=by omega
  obtain⟨L,hL⟩:∃L,L=(be n).length:=⟨_,rfl⟩
  have hLl:L<=8192:=by have:=So n;rw[<-hL,<-HBL.out] at this;omega
  have HST:Hid (∀wa,Below W.heap.size W wa->Calls Tryz.prog 150 #[.slice A (Al n).length c] wa λe w'=>∃v,e= .returned v/\Below W.heap.size W w'/\Below wa.heap.size wa w'/\is (.string (Dx n)) v w'):=λwa h=>by
   refine(zI n L _ 0 W.heap.size wa (HNW.out.below h) h.size hL ω).mono ?_
   rintro e w' ⟨rfl,hb⟩
   exact⟨_,rfl,h.trans (hb.mono h.size),hb,rfl⟩
  have HWO:Hid (dI z= .tuple #[.agg #[.bool (ng&&decide (0<n)),.string (Dx n)],.int .i64 0]):=by rw[HWR.out,if_pos hb,HWZ.out];exact rfl
  obtain⟨pb,hpb⟩:∃pb,pb=decide (0<n):=⟨_,rfl⟩
  have hgt:decide ((0:Int)<((Al n).length:Int))=pb:=by
   rw[hpb]
   by_cases h0:n=0
   · subst h0;rw[Db];rfl
   ·
    have:=List.length_pos_iff.2 λe=>h0 (Iu.1 e)
    simp;omega
  rw[<-hpb] at HWO
  have HGT:=Lib.hid hgt
  obtain⟨s,hs⟩:∃s,s=Dx n:=⟨_,rfl⟩
  rw[<-hs] at HST HWO
  clear hL hLl hpb hgt hs a0 a1 c0 c1 f0 f1 hb HWR HWZ
  have hgt':=HGT.out
  obtain⟨ln,hln⟩:∃ln,ln=(Al n).length:=⟨_,rfl⟩
  rw[<-hln] at hgt' HST CW ⊢
  clear hln
  cases ng with
  |false=>
   go_wp2_with fail
   refine Tq 12 21 (λw'=>Below W.heap.size W w') [is (.pointer (some ⟨w.heap.size,0,none⟩)),is (.bool false),is (.bool false),is undef,is undef,is undef,is undef,is (.bool false),is (.pointer (some ⟨w.heap.size,1,none⟩)),is (.slice A ln c),is (.string s),is (.agg #[.bool false,.string s])] κ κ rfl ?hst ?h0 ?hop ?htail
   case hst=>
    simp only[List.mem_cons,List.mem_nil_iff,or_false,forall_eq_or_imp,forall_eq]
    exact⟨Ab _,Ab _,Ab _,Ab _,Ab _,Ab _,Ab _,Ab _,Ab _,Ab _,Ab _,Ab _⟩
   case h0=>exact(Below.refl _ _).drew
   case hop=>
    refine⟨?_,?_,?_,?_,?_,?_,?_,?_,?_,?_,?_,?_,trivial⟩
    ·
     refine Fu rfl ?_
     exact Ch 153 (.tmp 1) 0 (.pointer (some ⟨w.heap.size,0,none⟩)) (.pointer (some ⟨w.heap.size,0,none⟩)) rfl κ (λw=>by kernel_rfl) rfl
    ·
     refine Fu rfl ?_
     exact Bb 4 (.tmp 9) (.pointer (some ⟨w.heap.size,0,none⟩)) (.bool false) rfl κ (λwa hC=>As wa κ ((Aw (CW.out wa hC).1).1)) rfl
    ·
     refine Fu rfl ?_
     exact Cy (.tmp 10) (is (.bool false)) rfl κ (λ_ _ _ h=>h)
    · exact Wa (b:=false) rfl κ δ κ
    · exact Wa (b:=false) rfl κ δ κ
    · exact Wa (b:=false) rfl κ δ κ
    · exact Wa (b:=false) rfl κ δ κ
    ·
     refine Fu rfl ?_
     refine Gr λa wa hC hpre=>?_
     have h1:is (.bool false) (a.eval (.tmp 11)) wa:=hpre (.tmp 11) (by simp[Op.operands])
     have h2:is undef (a.eval (.tmp 15)) wa:=hpre (.tmp 15) (by simp[Op.operands])
     have e1:a.tmps[11]?.getD undef= .bool false:=by simpa [Act.eval,is] using h1
     have e2:a.tmps[15]?.getD undef=undef:=by simpa [Act.eval,is] using h2
     refine⟨.bool false,?_,rfl⟩
     clear h1 h2
     go_simp
    ·
     refine Fu rfl ?_
     exact Ch 153 (.tmp 1) 1 (.pointer (some ⟨w.heap.size,0,none⟩)) (.pointer (some ⟨w.heap.size,1,none⟩)) rfl κ (λw=>by kernel_rfl) rfl
    ·
     refine Fu rfl ?_
     exact Bb 151 (.tmp 17) (.pointer (some ⟨w.heap.size,1,none⟩)) (.slice A ln c) rfl κ (λwa hC=>As wa κ ((Aw (CW.out wa hC).1).2)) rfl
    ·
     refine Fu rfl ?_
     exact Cd 150 [.tmp 18] _ [.slice A ln c] rfl (λ_ _=>by kernel_rfl) ⟨κ,trivial⟩ HST.out
    ·
     refine Fu rfl ?_
     exact Vz 16 19 (.bool false) (.string s) (.agg #[.bool false,.string s]) rfl κ κ (λa wa _ e1 e2=>by go_simp) rfl
   case htail=>
   intro τ w2 hC hR
   have r11:τ 11= .agg #[.bool false,.string s]:=hR 11 δ
   simp only[Bl,List.getElem?_toArray,List.getElem?_cons_succ,List.getElem?_cons_zero,Option.bind_some,Act.put,List.setIfInBounds_toArray,List.set_cons_succ,List.set_cons_zero,List.drop_succ_cons,List.drop_zero,r11]
   clear hR r11
   have h1:=(CW.out w2 hC).2
   have HB2:Hid (Below w.heap.size w w2):=HB.out.trans (hC.mono HB.out.size)
   obtain⟨c0,c1⟩:=Aw h1
   have f0:=Dv h1 0
   have f1:=Dv h1 1
   clear hC h1
   go_wp2_with fail
   obtain⟨w3,hw3⟩:∃w3,w3=(w2.setCell ⟨w.heap.size+1,0,none⟩ (.bool false)).setCell ⟨w.heap.size+1,1,none⟩ (.string s):=⟨_,rfl⟩
   rw[<-hw3]
   obtain⟨k0,k1⟩:w3.cell? ⟨w.heap.size+1,0,none⟩=some (.bool false)/\w3.cell? ⟨w.heap.size+1,1,none⟩=some (.string s):=by
    rw[hw3];exact Ey c0 c1
   refine bodyPost_ret (v:= .tuple #[.agg #[.bool false,.string s],.int .i64 0]) (by simp[results,results125,go_sem,k0,k1]) rfl ?_
   refine⟨by rw[HWO.out];rfl,?_⟩
   rw[hw3]
   exact Below.store2 HB2.out ω _ _
  |true=>
   have HGT2:Hid (decide (0<ln)=pb):=by unfold Hid;rw[<-hgt'];simp
   go_wp2_with fail
   refine Tq 12 21 (λw'=>Below W.heap.size W w') [is (.pointer (some ⟨w.heap.size,0,none⟩)),is (.bool true),is (.bool true),is (.pointer (some ⟨w.heap.size,1,none⟩)),is (.slice A ln c),is (.int .i64 (ln:Int)),is (.bool pb),is (.bool pb),is (.pointer (some ⟨w.heap.size,1,none⟩)),is (.slice A ln c),is (.string s),is (.agg #[.bool pb,.string s])] κ κ rfl ?hst ?h0 ?hop ?htail
   case hst=>
    simp only[List.mem_cons,List.mem_nil_iff,or_false,forall_eq_or_imp,forall_eq]
    exact⟨Ab _,Ab _,Ab _,Ab _,Ab _,Ab _,Ab _,Ab _,Ab _,Ab _,Ab _,Ab _⟩
   case h0=>exact(Below.refl _ _).drew
   case hop=>
    refine⟨?_,?_,?_,?_,?_,?_,?_,?_,?_,?_,?_,?_,trivial⟩
    ·
     refine Fu rfl ?_
     exact Ch 153 (.tmp 1) 0 (.pointer (some ⟨w.heap.size,0,none⟩)) (.pointer (some ⟨w.heap.size,0,none⟩)) rfl κ (λw=>by kernel_rfl) rfl
    ·
     refine Fu rfl ?_
     exact Bb 4 (.tmp 9) (.pointer (some ⟨w.heap.size,0,none⟩)) (.bool true) rfl κ (λwa hC=>As wa κ ((Aw (CW.out wa hC).1).1)) rfl
    ·
     refine Fu rfl ?_
     exact Cy (.tmp 10) (is (.bool true)) rfl κ (λ_ _ _ h=>h)
    ·
     refine Zk rfl κ ?_
     exact Ch 153 (.tmp 1) 1 (.pointer (some ⟨w.heap.size,0,none⟩)) (.pointer (some ⟨w.heap.size,1,none⟩)) rfl κ (λw=>by kernel_rfl) rfl
    ·
     refine Zk rfl κ ?_
     exact Bb 151 (.tmp 12) (.pointer (some ⟨w.heap.size,1,none⟩)) (.slice A ln c) rfl κ (λwa hC=>As wa κ ((Aw (CW.out wa hC).1).2)) rfl
    ·
     refine Zk rfl κ ?_
     exact Vy 13 (.slice A ln c) (.int .i64 (ln:Int)) rfl κ (λa wa _ e1=>by go_simp) rfl
    ·
     refine Zk rfl κ ?_
     exact bQ 14 (.int .i64 0) (.int .i64 (ln:Int)) (.bool pb) rfl κ (λa wa _ e1=>by go_simp;exact HGT2.out) rfl
    ·
     refine Fu rfl ?_
     refine Gr λa wa hC hpre=>?_
     have h1:is (.bool true) (a.eval (.tmp 11)) wa:=hpre (.tmp 11) (by simp[Op.operands])
     have h2:is (.bool pb) (a.eval (.tmp 15)) wa:=hpre (.tmp 15) (by simp[Op.operands])
     have e1:a.tmps[11]?.getD undef= .bool true:=by simpa [Act.eval,is] using h1
     have e2:a.tmps[15]?.getD undef= .bool pb:=by simpa [Act.eval,is] using h2
     refine⟨.bool pb,?_,rfl⟩
     clear h1 h2
     go_simp
    ·
     refine Fu rfl ?_
     exact Ch 153 (.tmp 1) 1 (.pointer (some ⟨w.heap.size,0,none⟩)) (.pointer (some ⟨w.heap.size,1,none⟩)) rfl κ (λw=>by kernel_rfl) rfl
    ·
     refine Fu rfl ?_
     exact Bb 151 (.tmp 17) (.pointer (some ⟨w.heap.size,1,none⟩)) (.slice A ln c) rfl κ (λwa hC=>As wa κ ((Aw (CW.out wa hC).1).2)) rfl
    ·
     refine Fu rfl ?_
     exact Cd 150 [.tmp 18] _ [.slice A ln c] rfl (λ_ _=>by kernel_rfl) ⟨κ,trivial⟩ HST.out
    ·
     refine Fu rfl ?_
     exact Vz 16 19 (.bool pb) (.string s) (.agg #[.bool pb,.string s]) rfl κ κ (λa wa _ e1 e2=>by go_simp) rfl
   case htail=>
   intro τ w2 hC hR
   have r11:τ 11= .agg #[.bool pb,.string s]:=hR 11 δ
   simp only[Bl,List.getElem?_toArray,List.getElem?_cons_succ,List.getElem?_cons_zero,Option.bind_some,Act.put,List.setIfInBounds_toArray,List.set_cons_succ,List.set_cons_zero,List.drop_succ_cons,List.drop_zero,r11]
   clear hR r11
   have h1:=(CW.out w2 hC).2
   have HB2:Hid (Below w.heap.size w w2):=HB.out.trans (hC.mono HB.out.size)
   obtain⟨c0,c1⟩:=Aw h1
   have f0:=Dv h1 0
   have f1:=Dv h1 1
   clear hC h1
   go_wp2_with fail
   obtain⟨w3,hw3⟩:∃w3,w3=(w2.setCell ⟨w.heap.size+1,0,none⟩ (.bool pb)).setCell ⟨w.heap.size+1,1,none⟩ (.string s):=⟨_,rfl⟩
   rw[<-hw3]
   obtain⟨k0,k1⟩:w3.cell? ⟨w.heap.size+1,0,none⟩=some (.bool pb)/\w3.cell? ⟨w.heap.size+1,1,none⟩=some (.string s):=by
    rw[hw3];exact Ey c0 c1
   refine bodyPost_ret (v:= .tuple #[.agg #[.bool pb,.string s],.int .i64 0]) (by simp[results,results125,go_sem,k0,k1]) rfl ?_
   refine⟨by rw[HWO.out];rfl,?_⟩
   rw[hw3]
   exact Below.store2 HB2.out ω _ _
 ·
  have hbi:(65536:Int)<(B:Int):=by omega
  have HWO:Hid (dI z= .tuple #[.agg #[.bool false,.string ⟨#[]⟩],.int .i64 7]):=by rw[HWR.out,if_neg hb];unfold Ak;rw[show (0:Int).natAbs=0 from rfl,mA];exact rfl
  clear hb a0 a1 CW HWR HWZ
  go_wp2_with fail
  obtain⟨w3,hw3⟩:∃w3,w3=(W.setCell ⟨w.heap.size+1,0,none⟩ (.bool false)).setCell ⟨w.heap.size+1,1,none⟩ (.string ⟨#[]⟩):=⟨_,rfl⟩
  rw[<-hw3]
  obtain⟨k0,k1⟩:w3.cell? ⟨w.heap.size+1,0,none⟩=some (.bool false)/\w3.cell? ⟨w.heap.size+1,1,none⟩=some (.string ⟨#[]⟩):=by
   rw[hw3];exact Ey c0 c1
  refine bodyPost_ret (v:= .tuple #[.agg #[.bool false,.string ⟨#[]⟩],.int .i64 7]) (by simp[results,results125,go_sem,k0,k1]) rfl ?_
  refine⟨by rw[HWO.out],?_⟩
  rw[hw3]
  exact Below.store2 HB.out ω _ _
theorem pW {a b q r:Int} (hb:0<b) (h:r+b*q=a) (h0:0<=r) (h1:r<b):a/b=q/\a%b=r:=(Int.ediv_emod_unique hb).2 ⟨h,h0,h1⟩
theorem pV {a b q r:Int} {m:Nat} (hm:b=m\/b= -(m:Int)) (hm0:0<m) (h:r+b*q=a) (h0:0<=r) (h1:r<m):a/b=q/\a%b=r:=by
 rcases hm with rfl|rfl
 exact pW ω h h0 h1
 have h2:r+(m:Int)*(-q)=a:=by rw[<-h,Int.mul_neg,Int.neg_mul]
 obtain⟨e1,e2⟩:=pW ω h2 h0 h1
 exact⟨by rw[Int.ediv_neg,e1];simp,by rw[Int.emod_neg,e2]⟩
theorem vH {ng mg:Bool} {n m:Nat} (hm:0<m) (h:ng=false\/n%m=0):Ig ng n/Ig mg m=Ig (ng != mg) (n/m)/\Ig ng n%Ig mg m=Ig false (n%m):=by
 have e:=Nat.mod_add_div n m
 have hl:=Nat.mod_lt n hm
 refine pV (m:=m) (by unfold Ig;cases mg<;>simp) hm ?_ (by simp[Ig];omega) (by simp[Ig];omega)
 have e2:((n%m:Nat):Int)+(m:Int)*((n/m:Nat):Int)=(n:Int):=by rw[<-Int.natCast_mul,<-Int.natCast_add,e]
 generalize n/m=q at*
 generalize n%m=r at*
 rcases h with rfl|h0
 unfold Ig;cases mg<;>simp[Int.neg_mul,Int.mul_neg] at* <;>omega
 rw[h0] at e2 ⊢
 unfold Ig;cases ng<;>cases mg<;>simp[Int.neg_mul,Int.mul_neg] at* <;>omega
theorem zC {mg:Bool} {n m:Nat} (hm:0<m):Ig false n/Ig mg m=Ig mg (n/m)/\Ig false n%Ig mg m=Ig false (n%m):=by
 have:=vH (ng:=false) (mg:=mg) (n:=n) hm (.inl rfl)
 cases mg<;>exact this
theorem zD {mg:Bool} {n m:Nat} (hm:0<m) (h:n%m=0):Ig true n/Ig mg m=Ig (!mg) (n/m)/\Ig true n%Ig mg m=Ig false (n%m):=by
 have:=vH (ng:=true) (mg:=mg) (n:=n) hm (.inr h)
 cases mg<;>exact this
theorem sG {mg:Bool} {n m:Nat} (hm:0<m) (h:0<n%m):Ig true n/Ig mg m=Ig (!mg) (n/m+1)/\Ig true n%Ig mg m=Ig false (m-n%m):=by
 have e:=Nat.mod_add_div n m
 have hl:=Nat.mod_lt n hm
 refine pV (m:=m) (by unfold Ig;cases mg<;>simp) hm ?_ (by simp[Ig]) (by simp[Ig];omega)
 have e2:((n%m:Nat):Int)+(m:Int)*((n/m:Nat):Int)=(n:Int):=by rw[<-Int.natCast_mul,<-Int.natCast_add,e]
 generalize n/m=q at*
 generalize n%m=r at*
 have e3:((m-r:Nat):Int)=(m:Int)-(r:Int):=by omega
 unfold Ig
 cases mg<;>simp[e3,Int.mul_add,Int.neg_mul,Int.mul_neg] at* <;>omega
def lW (w:World) (x y:Int) (e:Ending) (w':World):Prop:=∃v1 v2,e= .returned (.tuple #[v1,v2])/\Jh v1 w' (x/y)/\Jh v2 w' (x%y)/\Below w.heap.size w w'
theorem mS (w:World) (o o' o'' o3:Obj):((((w.alloc o).alloc o').alloc o'').alloc o3).heap[w.heap.size]?=some o/\((((w.alloc o).alloc o').alloc o'').alloc o3).heap[w.heap.size+1]?=some o'/\((((w.alloc o).alloc o').alloc o'').alloc o3).heap[w.heap.size+2]?=some o''/\((((w.alloc o).alloc o').alloc o'').alloc o3).heap[w.heap.size+3]?=some o3:=by
 have h:=Hw w o o' o''
 refine⟨(Below.heap_alloc _ _ _ (by simp only[World.size_alloc];omega)).trans h.1,(Below.heap_alloc _ _ _ (by simp only[World.size_alloc];omega)).trans h.2.1,(Below.heap_alloc _ _ _ (by simp only[World.size_alloc];omega)).trans h.2.2,?_⟩
 have:=heap_alloc_new (((w.alloc o).alloc o').alloc o'') o3
 rwa [World.size_alloc,World.size_alloc,World.size_alloc] at this
theorem bN {w w2:World} {b1 b2 n1 c1 n2 c2:Nat} {A1 A2:Option Addr} {g1 g2:Bool} {x y:Int} {x0 x1 y0 y1:Value} {t t':TypeId} {fz fz':Nat×Nat} (hM:Bi w2 0 w2.heap.size (.slice A1 (Al n1).length c1) n1) (hM':Bi w2 0 w2.heap.size (.slice A2 (Al n2).length c2) n2)
  (hb:w2.heap[b1]?=some (.cells #[x0,x1] t fz)) (hb':w2.heap[b2]?=some (.cells #[y0,y1] t' fz')) (hne:b1≠b2) (h0:No x0) (h1:No x1) (h2:No y0) (h3:No y1)
  (hB:Below w.heap.size w w2) (hwb:w.heap.size<=b1) (hwb':w.heap.size<=b2) (hz:Ig g1 n1=x/y) (hz':Ig g2 n2=x%y) (u0 u1 u2 u3:Value):
  lW w x y (.returned (.tuple #[.agg #[.bool g1,.slice A1 (Al n1).length c1],.agg #[.bool g2,.slice A2 (Al n2).length c2]])) ((((w2.setCell ⟨b1,0,none⟩ u0).setCell ⟨b1,1,none⟩ u1).setCell ⟨b2,0,none⟩ u2).setCell ⟨b2,1,none⟩ u3):=by
 have hb2:((w2.setCell ⟨b1,0,none⟩ u0).setCell ⟨b1,1,none⟩ u1).heap[b2]?=some (.cells #[y0,y1] t' fz'):=by
  rw[Below.heap_setCell _ _ _ _ (Ne.symm hne),Below.heap_setCell _ _ _ _ (Ne.symm hne)];exact hb'
 refine⟨_,_,rfl,⟨g1,_,n1,rfl,?_,hz⟩,⟨g2,_,n2,rfl,?_,hz'⟩,Below.store2 (Below.store2 hB hwb _ _) hwb' _ _⟩
 rw[Gb,Gb]
 exact(hM.store2 hb h0 h1 _ _).store2 hb2 h2 h3 _ _
 rw[Gb,Gb]
 exact(hM'.store2 hb h0 h1 _ _).store2 hb2 h2 h3 _ _
theorem Wm {w:World} {b b':Nat} {u u' y y' v v' z z':Value} (hne:b≠b') (h0:w.cell? ⟨b,0,none⟩=some u) (h1:w.cell? ⟨b,1,none⟩=some u') (h2:w.cell? ⟨b',0,none⟩=some y) (h3:w.cell? ⟨b',1,none⟩=some y'):
  ((((w.setCell ⟨b,0,none⟩ v).setCell ⟨b,1,none⟩ v').setCell ⟨b',0,none⟩ z).setCell ⟨b',1,none⟩ z').cell? ⟨b,0,none⟩=some v/\((((w.setCell ⟨b,0,none⟩ v).setCell ⟨b,1,none⟩ v').setCell ⟨b',0,none⟩ z).setCell ⟨b',1,none⟩ z').cell? ⟨b,1,none⟩=some v'/\
  ((((w.setCell ⟨b,0,none⟩ v).setCell ⟨b,1,none⟩ v').setCell ⟨b',0,none⟩ z).setCell ⟨b',1,none⟩ z').cell? ⟨b',0,none⟩=some z/\((((w.setCell ⟨b,0,none⟩ v).setCell ⟨b,1,none⟩ v').setCell ⟨b',0,none⟩ z).setCell ⟨b',1,none⟩ z').cell? ⟨b',1,none⟩=some z':=by
 have s:=Ey (v:=v) (v':=v') h0 h1
 have o:∀i (x y:Value),((w.setCell ⟨b,0,none⟩ x).setCell ⟨b,1,none⟩ y).cell? ⟨b',i,none⟩=w.cell? ⟨b',i,none⟩:=λi x y=>by
  rw[World.cell?_setCell_other _ _ _ _ (by simp),World.cell?_setCell_other _ _ _ _ (by simp)]
 have t:=Ey (v:=z) (v':=z') ((o 0 v v').trans h2) ((o 1 v v').trans h3)
 refine⟨?_,?_,t.1,t.2⟩
 rw[World.cell?_setCell_other _ _ _ _ (by simp),World.cell?_setCell_other _ _ _ _ (by simp)];exact s.1
 rw[World.cell?_setCell_other _ _ _ _ (by simp),World.cell?_setCell_other _ _ _ _ (by simp)];exact s.2
theorem uO:Al 1=[1]:=by rw[Nw δ,show 1%Bw=1 by decide,show 1/Bw=0 by decide,Db]
theorem AbU {lo:Nat} {e:TypeId} {v:Value} {w:World} (h:lV lo e [.int .u64 1] v w):Bi w 0 w.heap.size v 1:=by
 have hs:=h.sees
 obtain⟨b,_,rfl,_⟩:=h
 refine⟨?_,?_⟩
 rw[uO]
 exact Cc.more hs (Nat.zero_le _) (Nat.le_refl _)
 show 1<=1
 exact Nat.le_refl _
theorem pX (x y:Int) (vx vy:Value) (w:World) (hx:Jh vx w x) (hy:Jh vy w y) (hl:(Al x.natAbs).length<=40000) (hl':(Al y.natAbs).length<=40000) (hy0:y≠0):Calls Tryz.prog 129 #[vx,vy] w (lW w x y):=by
 obtain⟨ng,mv,n,rfl,hn,hz⟩:=hx
 obtain⟨mg,mv',m,rfl,hm,hz'⟩:=hy
 have hm0:0<m:=by
  rcases Nat.eq_zero_or_pos m with h|h
  ·
   rw[h] at hz'
   exact absurd (by rw[<-hz'];cases mg<;>rfl) hy0
  · exact h
 have hln:=Qc hz hl
 have hlm:=Qc hz' hl'
 have HZ:=Lib.hid hz
 have HZ':=Lib.hid hz'
 have HN:=Lib.hid hn
 have HM:=Lib.hid hm
 have HM0:=Lib.hid hm0
 obtain⟨A,c,rfl⟩:=hn.1.slice
 obtain⟨A',c',rfl⟩:=hm.1.slice
 have HLN:=Lib.hid hln
 have HLM:=Lib.hid hlm
 clear hn hm hz hz' hl hl' hln hlm hy0 hm0
 obtain⟨W,hW⟩:∃W,W=(((w.alloc (.cells #[.bool ng,.slice A (Al n).length c] 153)).alloc (.cells #[.bool mg,.slice A' (Al m).length c'] 153)).alloc (.cells #[.bool false,.slice none 0 0] 153)).alloc (.cells #[.bool false,.slice none 0 0] 153):=⟨_,rfl⟩
 have h3:=mS w (.cells #[.bool ng,.slice A (Al n).length c] 153) (.cells #[.bool mg,.slice A' (Al m).length c'] 153) (.cells #[.bool false,.slice none 0 0] 153) (.cells #[.bool false,.slice none 0 0] 153)
 rw[<-hW] at h3
 have hsW:W.heap.size=w.heap.size+4:=by rw[hW];simp
 have HB:Hid (Below w.heap.size w W):=by unfold Hid;rw[hW];exact((((Below.refl _ _).alloc (Nat.le_refl _) _).alloc (by simp) _).alloc (by simp;omega) _).alloc (by simp;omega) _
 have HNW:Hid (Bi W 0 W.heap.size (.slice A (Al n).length c) n):=HN.out.up (Nat.le_refl _) HB.out
 have HMW:Hid (Bi W 0 W.heap.size (.slice A' (Al m).length c') m):=HM.out.up (Nat.le_refl _) HB.out
 have CW:Hid (∀wa,Below W.heap.size W wa->wa.heap[w.heap.size]?=some (.cells #[.bool ng,.slice A (Al n).length c] 153 (0,0))/\wa.heap[w.heap.size+1]?=some (.cells #[.bool mg,.slice A' (Al m).length c'] 153 (0,0))/\wa.heap[w.heap.size+2]?=some (.cells #[.bool false,.slice none 0 0] 153 (0,0))/\wa.heap[w.heap.size+3]?=some (.cells #[.bool false,.slice none 0 0] 153 (0,0))):=λwa h=>by
  rw[h.block _ ω,h.block _ ω,h.block _ ω,h.block _ ω]
  exact h3
 obtain⟨a0,a1⟩:=Aw h3.1
 obtain⟨b0,b1⟩:=Aw h3.2.1
 clear h3
 have HDV:=Lib.hid (tW n m _ _ 0 W.heap.size 0 W.heap.size W HNW.out HMW.out (Nat.le_refl _) (Nat.le_refl _) (by have:=HLN.out;omega) (by have:=HLM.out;omega) HM0.out)
 go_enter func129,ntmps129
 go_upto_region 1 with fail
 rw[<-hW]
 clear hW
 go_wp2_with fail
 refine HDV.out.mono ?_
 rintro e w1 ⟨q,r,rfl,hq,hr,hb1⟩
 obtain⟨Aq,cq,rfl⟩:=hq.1.slice
 obtain⟨Ar,cr,rfl⟩:=hr.1.slice
 have HQ:=Lib.hid hq
 have HR:=Lib.hid hr
 obtain⟨d0,d1,d2,d3⟩:=CW.out w1 hb1
 obtain⟨a0',a1'⟩:=Aw d0
 obtain⟨b0',b1'⟩:=Aw d1
 have HB1:Hid (Below w.heap.size w w1):=HB.out.trans (hb1.mono HB.out.size)
 have hs1:w.heap.size+4<=w1.heap.size:=by have:=hb1.size;omega
 have CW1:Hid (∀wa,Below w1.heap.size w1 wa->wa.heap[w.heap.size]?=some (.cells #[.bool ng,.slice A (Al n).length c] 153 (0,0))/\wa.heap[w.heap.size+1]?=some (.cells #[.bool mg,.slice A' (Al m).length c'] 153 (0,0))/\wa.heap[w.heap.size+2]?=some (.cells #[.bool false,.slice none 0 0] 153 (0,0))/\wa.heap[w.heap.size+3]?=some (.cells #[.bool false,.slice none 0 0] 153 (0,0))):=λwa h=>
  CW.out wa (hb1.trans (h.mono hb1.size))
 have HMW1:Hid (Bi w1 0 w1.heap.size (.slice A' (Al m).length c') m):=HMW.out.up (Nat.le_refl _) hb1
 have HQL:Hid ((Al (n/m)).length<=40000):=Nat.le_trans (Lk (Nat.div_le_self _ _)) HLN.out
 have HRL:Hid (n%m<m):=Nat.mod_lt _ HM0.out
 clear hq hr a0 a1 b0 b1 HNW HMW HDV CW HB d0 d1 d2 d3 hb1 hsW
 obtain⟨Q,hQ⟩:∃Q,Q=n/m:=⟨_,rfl⟩
 obtain⟨R,hR⟩:∃R,R=n%m:=⟨_,rfl⟩
 rw[<-hQ] at HQ HQL ⊢
 rw[<-hR] at HR HRL ⊢
 have HQE:=Lib.hid hQ
 have HRE:=Lib.hid hR
 clear hQ hR
 by_cases hup:ng=true/\0<R
 ·
  obtain⟨rfl,hR0⟩:=hup
  have hRl:decide ((0:Int)<((Al R).length:Int))=true:=by
   have:=List.length_pos_iff.2 λe=>Nat.ne_of_gt hR0 (Iu.1 e)
   simp;omega
  have hRl2:0<(Al R).length:=by simpa using hRl
  have hRl3:(0:Int)<((Al R).length:Int):=by omega
  have HR0:=Lib.hid hR0
  clear hR0
  have HAD:Hid (∀wa u v,Below w1.heap.size w1 wa->is (.slice Aq (Al Q).length cq) u wa->lV w1.heap.size 155 [.int .u64 1] v wa->Calls Tryz.prog 153 #[u,v] wa λe w'=>∃v',e= .returned v'/\Below w1.heap.size w1 w'/\Below wa.heap.size wa w'/\Kt (Q+1) v' w'):=λwa u v hC hu hv=>by
   have hu':u= .slice Aq (Al Q).length cq:=hu
   subst hu'
   refine(tL Q 1 _ _ 0 wa.heap.size 0 wa.heap.size wa (HQ.out.up (Nat.le_refl _) hC) (AbU hv) (Nat.le_refl _) (Nat.le_refl _) (by have:=HQL.out;omega) (by rw[uO];decide)).mono λ_ _ h=>h.word hC
  have HSB:Hid (∀wa,Below w1.heap.size w1 wa->Calls Tryz.prog 154 #[.slice A' (Al m).length c',.slice Ar (Al R).length cr] wa (Dn wa (m-R))):=λwa hC=>
   Qd m R _ _ 0 w1.heap.size 0 w1.heap.size wa (HMW1.out.below hC) (HR.out.below hC) hC.size hC.size (by have:=HLM.out;omega) (Nat.le_of_lt HRL.out)
  go_wp2_with fail
  clear a0' a1' b0' b1' hRl hRl2 hRl3
  refine Dc 7 39 (λw'=>Below w1.heap.size w1 w') [is (.slice Aq (Al Q).length cq),lV w1.heap.size 155 [.int .u64 1],Kt (Q+1),is (.pointer (some ⟨w.heap.size+1,1,none⟩)),is (.slice A' (Al m).length c'),is (.slice Ar (Al R).length cr),Kt (m-R)] κ κ rfl δ ?hst ?h0 ?hop ?htail
  case hst=>
   simp only[List.mem_cons,List.mem_nil_iff,or_false,forall_eq_or_imp,forall_eq]
   exact⟨Ab _,oQ _ _ _,Fz _,Ab _,Ab _,Ab _,Fz _⟩
  case h0=>exact(Below.refl _ _).drew
  case hop=>
   refine⟨?_,?_,?_,?_,?_,?_,?_,trivial⟩
   · exact Cy (.tmp 6) (is (.slice Aq (Al Q).length cq)) rfl κ (λ_ _ _ h=>h)
   · exact AeL 155 [.int .u64 1] (λa wa _ hpre=>by go_simp) rfl
   · exact Oy 153 (.tmp 23) (.tmp 24) _ (is (.slice Aq (Al Q).length cq)) (lV w1.heap.size 155 [.int .u64 1]) rfl (λ_ _=>by kernel_rfl) κ κ HAD.out
   · exact Ch 153 (.tmp 3) 1 (.pointer (some ⟨w.heap.size+1,0,none⟩)) (.pointer (some ⟨w.heap.size+1,1,none⟩)) rfl κ (λw=>by kernel_rfl) rfl
   · exact Bb 151 (.tmp 26) (.pointer (some ⟨w.heap.size+1,1,none⟩)) (.slice A' (Al m).length c') rfl κ (λwa hC=>As wa κ ((Aw (CW1.out wa hC).2.1).2)) rfl
   · exact Cy (.tmp 7) (is (.slice Ar (Al R).length cr)) rfl κ (λ_ _ _ h=>h)
   · exact Cd 154 [.tmp 27,.tmp 28] _ [.slice A' (Al m).length c',.slice Ar (Al R).length cr] rfl (λ_ _=>by kernel_rfl) ⟨κ,κ,trivial⟩ (λwa hC=>(HSB.out wa hC).mono λ_ _ h=>h.word hC)
  case htail=>
  intro τ w2 hC hR
  have r2:Kt (Q+1) (τ 2) w2:=hR 2 δ
  have r6:Kt (m-R) (τ 6) w2:=hR 6 δ
  obtain⟨v1,hv1⟩:∃mv,mv=τ 2:=⟨_,rfl⟩
  obtain⟨v2,hv2⟩:∃mv,mv=τ 6:=⟨_,rfl⟩
  rw[<-hv1] at r2
  rw[<-hv2] at r6
  simp only[Bl,List.getElem?_toArray,List.getElem?_cons_succ,List.getElem?_cons_zero,Option.bind_some,Act.put,List.setIfInBounds_toArray,List.set_cons_succ,List.set_cons_zero,List.drop_succ_cons,List.drop_zero,<-hv1,<-hv2]
  clear hR hv1 hv2
  have hsz:=sG (mg:=mg) HM0.out (n:=n) (by rw[<-HRE.out];exact HR0.out)
  rw[HZ.out,HZ'.out,<-HQE.out,<-HRE.out] at hsz
  obtain⟨k1,hk1⟩:∃k,k=Q+1:=⟨_,rfl⟩
  obtain⟨k2,hk2⟩:∃k,k=m-R:=⟨_,rfl⟩
  rw[<-hk1] at r2 hsz
  rw[<-hk2] at r6 hsz
  have HSZ:=Lib.hid hsz
  have HR2:=Lib.hid r2
  have HR6:=Lib.hid r6
  obtain⟨A1,c1,rfl⟩:=r2.1.slice
  obtain⟨A2,c2,rfl⟩:=r6.1.slice
  obtain⟨d0,d1,d2,d3⟩:=CW1.out w2 hC
  have HB2:Hid (Below w.heap.size w w2):=HB1.out.trans (hC.mono HB1.out.size)
  obtain⟨e0,e1⟩:=Aw d0
  obtain⟨e2,e3⟩:=Aw d1
  obtain⟨e4,e5⟩:=Aw d2
  obtain⟨e6,e7⟩:=Aw d3
  have f0:=Dv d2 0
  have f1:=Dv d2 1
  have f2:=Dv d3 0
  have f3:=Dv d3 1
  have HD2:=Lib.hid d2
  have HD3:=Lib.hid d3
  clear hk1 hk2 hsz r2 r6 d0 d1 d2 d3 hC
  go_wp2_with fail
  obtain⟨w3,hw3⟩:∃w3,w3=(((w2.setCell ⟨w.heap.size+1+1,0,none⟩ (.bool (!mg))).setCell ⟨w.heap.size+1+1,1,none⟩ (.slice A1 (Al k1).length c1)).setCell ⟨w.heap.size+1+1+1,0,none⟩ (.bool false)).setCell ⟨w.heap.size+1+1+1,1,none⟩ (.slice A2 (Al k2).length c2):=⟨_,rfl⟩
  rw[<-hw3]
  obtain⟨p0,p1,p2,p3⟩:w3.cell? ⟨w.heap.size+1+1,0,none⟩=some (.bool (!mg))/\w3.cell? ⟨w.heap.size+1+1,1,none⟩=some (.slice A1 (Al k1).length c1)/\w3.cell? ⟨w.heap.size+1+1+1,0,none⟩=some (.bool false)/\w3.cell? ⟨w.heap.size+1+1+1,1,none⟩=some (.slice A2 (Al k2).length c2):=by
   rw[hw3];exact Wm ω e4 e5 e6 e7
  refine bodyPost_ret (v:= .tuple #[.agg #[.bool (!mg),.slice A1 (Al k1).length c1],.agg #[.bool false,.slice A2 (Al k2).length c2]]) (by simp[results,results129,go_sem,p0,p1,p2,p3]) rfl ?_
  rw[hw3]
  exact bN HR2.out HR6.out HD2.out HD3.out ω trivial trivial trivial trivial HB2.out ω ω HSZ.out.1.symm HSZ.out.2.symm _ _ _ _
 cases ng with
 |true=>
  have hR0:R=0:=by
   rcases Nat.eq_zero_or_pos R with h|h
   · exact h
   · exact absurd ⟨rfl,h⟩ hup
  have hRl3:decide ((0:Int)<((Al R).length:Int))=false:=by rw[hR0,Db];simp
  have hRl2:decide (0<(Al R).length)=false:=by rw[hR0,Db];simp
  have hsz:=zD (mg:=mg) HM0.out (n:=n) (by rw[<-HRE.out];exact hR0)
  rw[HZ.out,HZ'.out,<-HQE.out,<-HRE.out] at hsz
  clear hR0 hup
  have r2:=HQ.out
  have r6:=HR.out
  obtain⟨w2,hw2⟩:∃w2,w2=w1:=⟨_,rfl⟩
  rw[<-hw2] at r2 r6 ⊢
  have hC:Below w1.heap.size w1 w2:=by rw[hw2];exact Below.refl _ _
  clear hw2 a0' a1' b0' b1'
  have HSZ:=Lib.hid hsz
  have HR2:=Lib.hid r2
  have HR6:=Lib.hid r6
  obtain⟨d0,d1,d2,d3⟩:=CW1.out w2 hC
  have HB2:Hid (Below w.heap.size w w2):=HB1.out.trans (hC.mono HB1.out.size)
  obtain⟨e0,e1⟩:=Aw d0
  obtain⟨e2,e3⟩:=Aw d1
  obtain⟨e4,e5⟩:=Aw d2
  obtain⟨e6,e7⟩:=Aw d3
  have f0:=Dv d2 0
  have f1:=Dv d2 1
  have f2:=Dv d3 0
  have f3:=Dv d3 1
  have HD2:=Lib.hid d2
  have HD3:=Lib.hid d3
  clear hsz r2 r6 d0 d1 d2 d3 hC
  go_wp2_with fail
  obtain⟨w3,hw3⟩:∃w3,w3=(((w2.setCell ⟨w.heap.size+1+1,0,none⟩ (.bool (!mg))).setCell ⟨w.heap.size+1+1,1,none⟩ (.slice Aq (Al Q).length cq)).setCell ⟨w.heap.size+1+1+1,0,none⟩ (.bool false)).setCell ⟨w.heap.size+1+1+1,1,none⟩ (.slice Ar (Al R).length cr):=⟨_,rfl⟩
  rw[<-hw3]
  obtain⟨p0,p1,p2,p3⟩:w3.cell? ⟨w.heap.size+1+1,0,none⟩=some (.bool (!mg))/\w3.cell? ⟨w.heap.size+1+1,1,none⟩=some (.slice Aq (Al Q).length cq)/\w3.cell? ⟨w.heap.size+1+1+1,0,none⟩=some (.bool false)/\w3.cell? ⟨w.heap.size+1+1+1,1,none⟩=some (.slice Ar (Al R).length cr):=by
   rw[hw3];exact Wm ω e4 e5 e6 e7
  refine bodyPost_ret (v:= .tuple #[.agg #[.bool (!mg),.slice Aq (Al Q).length cq],.agg #[.bool false,.slice Ar (Al R).length cr]]) (by simp[results,results129,go_sem,p0,p1,p2,p3]) rfl ?_
  rw[hw3]
  exact bN HR2.out HR6.out HD2.out HD3.out ω trivial trivial trivial trivial HB2.out ω ω HSZ.out.1.symm HSZ.out.2.symm _ _ _ _
 |false=>
  have hsz:=zC (mg:=mg) HM0.out (n:=n)
  rw[HZ.out,HZ'.out,<-HQE.out,<-HRE.out] at hsz
  clear hup
  have r2:=HQ.out
  have r6:=HR.out
  obtain⟨w2,hw2⟩:∃w2,w2=w1:=⟨_,rfl⟩
  rw[<-hw2] at r2 r6 ⊢
  have hC:Below w1.heap.size w1 w2:=by rw[hw2];exact Below.refl _ _
  clear hw2 a0' a1' b0' b1'
  have HSZ:=Lib.hid hsz
  have HR2:=Lib.hid r2
  have HR6:=Lib.hid r6
  obtain⟨d0,d1,d2,d3⟩:=CW1.out w2 hC
  have HB2:Hid (Below w.heap.size w w2):=HB1.out.trans (hC.mono HB1.out.size)
  obtain⟨e0,e1⟩:=Aw d0
  obtain⟨e2,e3⟩:=Aw d1
  obtain⟨e4,e5⟩:=Aw d2
  obtain⟨e6,e7⟩:=Aw d3
  have f0:=Dv d2 0
  have f1:=Dv d2 1
  have f2:=Dv d3 0
  have f3:=Dv d3 1
  have HD2:=Lib.hid d2
  have HD3:=Lib.hid d3
  clear hsz r2 r6 d0 d1 d2 d3 hC
  go_wp2_with fail
  obtain⟨w3,hw3⟩:∃w3,w3=(((w2.setCell ⟨w.heap.size+1+1,0,none⟩ (.bool mg)).setCell ⟨w.heap.size+1+1,1,none⟩ (.slice Aq (Al Q).length cq)).setCell ⟨w.heap.size+1+1+1,0,none⟩ (.bool false)).setCell ⟨w.heap.size+1+1+1,1,none⟩ (.slice Ar (Al R).length cr):=⟨_,rfl⟩
  rw[<-hw3]
  obtain⟨p0,p1,p2,p3⟩:w3.cell? ⟨w.heap.size+1+1,0,none⟩=some (.bool mg)/\w3.cell? ⟨w.heap.size+1+1,1,none⟩=some (.slice Aq (Al Q).length cq)/\w3.cell? ⟨w.heap.size+1+1+1,0,none⟩=some (.bool false)/\w3.cell? ⟨w.heap.size+1+1+1,1,none⟩=some (.slice Ar (Al R).length cr):=by
   rw[hw3];exact Wm ω e4 e5 e6 e7
  refine bodyPost_ret (v:= .tuple #[.agg #[.bool mg,.slice Aq (Al Q).length cq],.agg #[.bool false,.slice Ar (Al R).length cr]]) (by simp[results,results129,go_sem,p0,p1,p2,p3]) rfl ?_
  rw[hw3]
  exact bN HR2.out HR6.out HD2.out HD3.out ω trivial trivial trivial trivial HB2.out ω ω HSZ.out.1.symm HSZ.out.2.symm _ _ _ _
def Fp (z:Int):Prop:=bitLen z.natAbs<=65536
theorem Fp.bytes {z:Int} (h:Fp z):(be z.natAbs).length<=8192:=by unfold Fp at h;rw[So];omega
theorem Fp.digits {z:Int} (h:Fp z):(Al z.natAbs).length<=1024:=by have:=h.bytes;have:=bH z.natAbs;omega
theorem AaI {n:Nat} (_:n≠0) (hp:0<(be n).length):((be n)[0]).toNat≠0:=by
 have hh:=AcR n
 rw[List.head?_eq_getElem?,List.getElem?_eq_getElem hp] at hh
 intro e
 apply hh
 have:(be n)[0]=0:=UInt8.toNat_inj.1 e
 rw[this]
theorem AaH (n:Nat):(Dx n).toList=be n:=by simp[Dx]
theorem eO {n:Nat}:(Dx n).toList.isEmpty=decide (n=0):=by
 rw[AaH]
 by_cases h:n=0
 subst h;rw[Np];rfl
 have h2:(be n)≠[]:=λe=>h (qJ.1 e)
 simp[h,h2]
theorem Ju (z:Int) (w:World) (hf:Fp z):Calls Tryz.prog 99 #[Ak z] w λe w'=>e= .returned (.bool true)/\Below w.heap.size w w':=by
 have hb:=hf.bytes
 unfold Ak
 obtain⟨n,hn⟩:∃n,n=z.natAbs:=⟨_,rfl⟩
 rw[<-hn] at hb ⊢
 have hz:n=0->decide (z<0)=false:=λh=>by
  have:z=0:=by omega
  subst this;rfl
 obtain⟨ng,hng⟩:∃ng,ng=decide (z<0):=⟨_,rfl⟩
 rw[<-hng] at hz ⊢
 have he:=eO (n:=n)
 have hsz:=Vc n
 obtain⟨L,hL⟩:∃L,L=(be n).length:=⟨_,rfl⟩
 rw[<-hL] at hb hsz
 have h0:∀(h:0<(Dx n).size),n≠0->((Dx n)[0]).toNat≠0:=λh hne=>AaI hne (by rw[<-Vc];exact h)
 have hp:n≠0->0<L:=λh=>by rw[hL];exact List.length_pos_iff.2 λe=>h (qJ.1 e)
 obtain⟨s,hs⟩:∃s,s=Dx n:=⟨_,rfl⟩
 rw[<-hs] at he hsz h0 ⊢
 clear hs hL hng hn hf
 have hbw:Below w.heap.size w (w.alloc (.cells #[.bool ng,.string s] 70)):=(Below.refl _ _).alloc (Nat.le_refl _) _
 have HBW:=Lib.hid hbw
 clear hbw
 by_cases hn0:n=0
 ·
  have hng:=hz hn0
  subst hng
  rw[show decide (n=0)=true by simp[hn0]] at he
  clear hz h0 hp hn0
  go_enter func99,ntmps99
  go_wp2_with fail
  go_ret
  exact⟨rfl,HBW.out⟩
 ·
  rw[show decide (n=0)=false by simp[hn0]] at he
  have hp:=hp hn0
  have hps:0<s.size:=by omega
  have hf0:=h0 hps hn0
  obtain⟨x,hx⟩:∃x,x=(s[0]'hps).toNat:=⟨_,rfl⟩
  have hxn:((s[0]'hps).toNat:Int)≠0:=by omega
  have hxb:(((s[0]'hps).toNat:Int) != 0)=true:=by simpa using hxn
  have hLi:(L:Int)<=8192:=by omega
  clear hz h0 hn0 hf0 hx hxn
  go_enter func99,ntmps99
  go_wp2_with fail
  go_ret
  exact⟨rfl,HBW.out⟩
theorem Qz (x y:Int) (w:World) (hx:Fp x) (hy:Fp y):Calls Tryz.prog 128 #[Ak x,Ak y] w λe w'=>e= .returned (.bool true)/\Below w.heap.size w w':=by
 have HX:=Lib.hid (λw=>Ju x w hx)
 have HY:=Lib.hid (λw=>Ju y w hy)
 clear hx hy
 unfold Ak at*
 obtain⟨ng,hng⟩:∃ng,ng=decide (x<0):=⟨_,rfl⟩
 obtain⟨s,hs⟩:∃s,s=Dx x.natAbs:=⟨_,rfl⟩
 obtain⟨mg,hmg⟩:∃mg,mg=decide (y<0):=⟨_,rfl⟩
 obtain⟨t,ht⟩:∃t,t=Dx y.natAbs:=⟨_,rfl⟩
 rw[<-hng,<-hs] at HX ⊢
 rw[<-hmg,<-ht] at HY ⊢
 clear hng hs hmg ht
 obtain⟨W,hW⟩:∃W,W=(w.alloc (.cells #[.bool ng,.string s] 70)).alloc (.cells #[.bool mg,.string t] 70):=⟨_,rfl⟩
 have h2:=Od w (.cells #[.bool ng,.string s] 70) (.cells #[.bool mg,.string t] 70)
 rw[<-hW] at h2
 have hsW:W.heap.size=w.heap.size+2:=by rw[hW];simp
 have HB:Hid (Below w.heap.size w W):=by unfold Hid;rw[hW];exact((Below.refl _ _).alloc (Nat.le_refl _) _).alloc (by simp) _
 obtain⟨a0,a1⟩:=Aw h2.1
 have HH:=Lib.hid h2.2
 clear h2
 go_enter func128,ntmps128
 go_upto_region 1 with fail
 rw[<-hW]
 clear hW
 go_wp2_with fail
 refine(HX.out _).mono ?_
 rintro e w1 ⟨rfl,hb1⟩
 have h3:=(hb1.block (w.heap.size+1) ω).trans HH.out
 obtain⟨b0,b1⟩:=Aw h3
 have HB1:Hid (Below w.heap.size w w1):=HB.out.trans (hb1.mono HB.out.size)
 clear a0 a1 h3 hb1
 go_wp2_with fail
 refine(HY.out _).mono ?_
 rintro e w2 ⟨rfl,hb2⟩
 have HB2:Hid (Below w.heap.size w w2):=HB1.out.trans (hb2.mono HB1.out.size)
 clear hb2
 go_wp2_with fail
 go_ret
 exact⟨rfl,HB2.out⟩
def okW (z:Int):Value:= .tuple #[Ak z,.int .i64 0]
def Xb (w:World) (z:Int) (e:Ending) (w':World):Prop:=e= .returned (okW z)/\Below w.heap.size w w'
theorem Lm {w:World} {b:Nat} {x0 x1:Value} {t:TypeId} {fz:Nat×Nat} (h:w.heap[b]?=some (.cells #[x0,x1] t fz)):∀j u,[x0,x1][j]?=some u->w.cell? ⟨b,0+j,none⟩=some u:=by
 intro j u hu
 rw[Nat.zero_add]
 match j with
 |0=>simp at hu;subst hu;exact(Aw h).1
 |1=>simp at hu;subst hu;exact(Aw h).2
 |j+2=>simp at hu
theorem pP (x y:Int) (w:World) (hx:Fp x) (hy:Fp y) (hz:Fp (x+y)):Calls Tryz.prog 102 #[Ak x,Ak y] w (Xb w (x+y)):=by
 have HBT:=Lib.hid (λw=>Qz x y w hx hy)
 have hxb:=hx.bytes
 have hyb:=hy.bytes
 have HOX:=Lib.hid (λw=>Mw x _ w rfl (Nat.le_trans hxb δ))
 have HOY:=Lib.hid (λw=>Mw y _ w rfl (Nat.le_trans hyb δ))
 have HXD:=Lib.hid hx.digits
 have HYD:=Lib.hid hy.digits
 have hzd:=hz.digits
 have HZF:=Lib.hid hz
 clear hx hy hxb hyb hz
 obtain⟨z,hz⟩:∃z,z=x+y:=⟨_,rfl⟩
 have HZ:=Lib.hid hz
 have HZV:Hid (okW (x+y)=okW z):=by rw[hz];exact rfl
 unfold Xb
 rw[HZV.out]
 clear hz HZV
 unfold okW
 unfold Ak at*
 obtain⟨ng,hng⟩:∃ng,ng=decide (x<0):=⟨_,rfl⟩
 obtain⟨s,hs⟩:∃s,s=Dx x.natAbs:=⟨_,rfl⟩
 obtain⟨mg,hmg⟩:∃mg,mg=decide (y<0):=⟨_,rfl⟩
 obtain⟨t,ht⟩:∃t,t=Dx y.natAbs:=⟨_,rfl⟩
 obtain⟨kg,hkg⟩:∃kg,kg=decide (z<0):=⟨_,rfl⟩
 obtain⟨u,hu⟩:∃u,u=Dx z.natAbs:=⟨_,rfl⟩
 rw[<-hng,<-hs] at HBT HOX ⊢
 rw[<-hmg,<-ht] at HBT HOY ⊢
 have HKU:Hid (Ak z= .agg #[.bool kg,.string u]):=by unfold Hid Ak;rw[hkg,hu]
 rw[<-hkg,<-hu]
 clear hng hs hmg ht hkg hu
 obtain⟨W,hW⟩:∃W,W=((w.alloc (.cells #[.bool ng,.string s] 70)).alloc (.cells #[.bool mg,.string t] 70)).alloc (.cells #[.bool false,.string ⟨#[]⟩] 70):=⟨_,rfl⟩
 have h3:=Hw w (.cells #[.bool ng,.string s] 70) (.cells #[.bool mg,.string t] 70) (.cells #[.bool false,.string ⟨#[]⟩] 70)
 rw[<-hW] at h3
 have hsW:W.heap.size=w.heap.size+3:=by rw[hW];simp
 have HB:Hid (Below w.heap.size w W):=by unfold Hid;rw[hW];exact(((Below.refl _ _).alloc (Nat.le_refl _) _).alloc (by simp) _).alloc (by simp;omega) _
 obtain⟨a0,a1⟩:=Aw h3.1
 obtain⟨b0,b1⟩:=Aw h3.2.1
 have HH:=Lib.hid h3
 clear h3
 go_enter func102,ntmps102
 go_upto_region 1 with fail
 rw[<-hW]
 clear hW
 go_wp2_with fail
 refine(HBT.out _).mono ?_
 rintro e w1 ⟨rfl,hb1⟩
 have HB1:Hid (Below w.heap.size w w1):=HB.out.trans (hb1.mono HB.out.size)
 have hs1:w.heap.size+3<=w1.heap.size:=by have:=hb1.size;omega
 have CW:Hid (∀wa,Below w1.heap.size w1 wa->wa.heap[w.heap.size]?=some (.cells #[.bool ng,.string s] 70 (0,0))/\wa.heap[w.heap.size+1]?=some (.cells #[.bool mg,.string t] 70 (0,0))/\wa.heap[w.heap.size+2]?=some (.cells #[.bool false,.string ⟨#[]⟩] 70 (0,0))):=λwa h=>by
  have hb:=hb1.trans (h.mono hb1.size)
  rw[hb.block _ ω,hb.block _ ω,hb.block _ ω]
  exact HH.out
 clear a0 a1 b0 b1 hb1 hsW HB HH
 go_wp2_with fail
 have HOP:Hid (∀wa u v,Below w1.heap.size w1 wa->Cq x u wa->Cq y v wa->Calls Tryz.prog 130 #[u,v] wa λe w'=>∃v',e= .returned v'/\Below w1.heap.size w1 w'/\Below wa.heap.size wa w'/\Cq z v' w'):=λwa u v hC hu hv=>by
  rw[HZ.out]
  exact(pU x y u v wa hu hv (Nat.le_trans HXD.out δ) (Nat.le_trans HYD.out δ)).mono λ_ _ h=>h.word hC
 have HWD:Hid (∀wa v,Below w1.heap.size w1 wa->Cq z v wa->Calls Tryz.prog 125 #[v] wa λe w'=>∃v',e= .returned v'/\Below w1.heap.size w1 w'/\Below wa.heap.size wa w'/\is (.tuple #[.agg #[.bool kg,.string u],.int .i64 0]) v' w'):=λwa v hC hv=>by
  refine(Pg z v wa hv (by rw[HZ.out];exact Nat.le_trans hzd δ)).mono ?_
  rintro e w' ⟨rfl,hb⟩
  refine⟨_,rfl,hC.trans (hb.mono hC.size),hb,?_⟩
  rw[Pf (by rw[HZ.out];exact HZF.out),HKU.out]
  exact rfl
 refine Dc 8 19 (λw'=>Below w1.heap.size w1 w') [is (.agg #[.bool ng,.string s]),Cq x,is (.agg #[.bool mg,.string t]),Cq y,Cq z,is (.tuple #[.agg #[.bool kg,.string u],.int .i64 0]),is (.agg #[.bool kg,.string u]),is (.int .i64 0)] κ κ rfl δ ?hst ?h0 ?hop ?htail
 case hst=>
  simp only[List.mem_cons,List.mem_nil_iff,or_false,forall_eq_or_imp,forall_eq]
  exact⟨Ab _,Dk _,Ab _,Dk _,Dk _,Ab _,Ab _,Ab _⟩
 case h0=>exact(Below.refl _ _).drew
 case hop=>
  refine⟨?_,?_,?_,?_,?_,?_,?_,?_,trivial⟩
  · exact Bb 70 (.tmp 2) (.pointer (some ⟨w.heap.size,0,none⟩)) (.agg #[.bool ng,.string s]) rfl κ (λwa hC=>Dq [.bool ng,.string s] wa κ κ (Lm (CW.out wa hC).1)) rfl
  · exact Cd 100 [.tmp 11] _ [.agg #[.bool ng,.string s]] rfl (λ_ _=>by kernel_rfl) ⟨κ,trivial⟩ (λwa hC=>(HOX.out wa).mono λ_ _ h=>h.word hC)
  · exact Bb 70 (.tmp 3) (.pointer (some ⟨w.heap.size+1,0,none⟩)) (.agg #[.bool mg,.string t]) rfl κ (λwa hC=>Dq [.bool mg,.string t] wa κ κ (Lm (CW.out wa hC).2.1)) rfl
  · exact Cd 100 [.tmp 13] _ [.agg #[.bool mg,.string t]] rfl (λ_ _=>by kernel_rfl) ⟨κ,trivial⟩ (λwa hC=>(HOY.out wa).mono λ_ _ h=>h.word hC)
  · exact Oy 130 (.tmp 12) (.tmp 14) _ (Cq x) (Cq y) rfl (λ_ _=>by kernel_rfl) κ κ HOP.out
  · exact Rr 125 (.tmp 15) _ (Cq z) rfl (λ_ _=>by kernel_rfl) κ HWD.out
  · exact Vy 16 (.tuple #[.agg #[.bool kg,.string u],.int .i64 0]) (.agg #[.bool kg,.string u]) rfl κ (λa wa _ e1=>by go_simp) rfl
  · exact Vy 16 (.tuple #[.agg #[.bool kg,.string u],.int .i64 0]) (.int .i64 0) rfl κ (λa wa _ e1=>by go_simp) rfl
 case htail=>
 intro τ w2 hC hR
 have r1:τ 6= .agg #[.bool kg,.string u]:=hR 6 δ
 have r2:τ 7= .int .i64 0:=hR 7 δ
 simp only[Bl,List.getElem?_toArray,List.getElem?_cons_succ,List.getElem?_cons_zero,Option.bind_some,Act.put,List.setIfInBounds_toArray,List.set_cons_succ,List.set_cons_zero,List.drop_succ_cons,List.drop_zero,r1,r2]
 clear hR r1 r2
 have h1:=(CW.out w2 hC).2.2
 have HB2:Hid (Below w.heap.size w w2):=HB1.out.trans (hC.mono HB1.out.size)
 obtain⟨c0,c1⟩:=Aw h1
 have f0:=Dv h1 0
 have f1:=Dv h1 1
 clear hC h1
 go_wp2_with fail
 obtain⟨w3,hw3⟩:∃w3,w3=(w2.setCell ⟨w.heap.size+2,0,none⟩ (.bool kg)).setCell ⟨w.heap.size+2,1,none⟩ (.string u):=⟨_,rfl⟩
 rw[<-hw3]
 obtain⟨k0,k1⟩:w3.cell? ⟨w.heap.size+2,0,none⟩=some (.bool kg)/\w3.cell? ⟨w.heap.size+2,1,none⟩=some (.string u):=by
  rw[hw3];exact Ey c0 c1
 refine bodyPost_ret (v:= .tuple #[.agg #[.bool kg,.string u],.int .i64 0]) (by simp[results,results102,go_sem,k0,k1]) rfl ?_
 refine⟨rfl,?_⟩
 rw[hw3]
 exact Below.store2 HB2.out ω _ _
theorem pS (x y:Int) (w:World) (hx:Fp x) (hy:Fp y) (hz:Fp (x*y)):Calls Tryz.prog 123 #[Ak x,Ak y] w (Xb w (x*y)):=by
 have HBT:=Lib.hid (λw=>Qz x y w hx hy)
 have hxb:=hx.bytes
 have hyb:=hy.bytes
 have HOX:=Lib.hid (λw=>Mw x _ w rfl (Nat.le_trans hxb δ))
 have HOY:=Lib.hid (λw=>Mw y _ w rfl (Nat.le_trans hyb δ))
 have HXD:=Lib.hid hx.digits
 have HYD:=Lib.hid hy.digits
 have hzd:=hz.digits
 have HZF:=Lib.hid hz
 clear hx hy hxb hyb hz
 obtain⟨z,hz⟩:∃z,z=x*y:=⟨_,rfl⟩
 have HZ:=Lib.hid hz
 have HZV:Hid (okW (x*y)=okW z):=by rw[hz];exact rfl
 unfold Xb
 rw[HZV.out]
 clear hz HZV
 unfold okW
 unfold Ak at*
 obtain⟨ng,hng⟩:∃ng,ng=decide (x<0):=⟨_,rfl⟩
 obtain⟨s,hs⟩:∃s,s=Dx x.natAbs:=⟨_,rfl⟩
 obtain⟨mg,hmg⟩:∃mg,mg=decide (y<0):=⟨_,rfl⟩
 obtain⟨t,ht⟩:∃t,t=Dx y.natAbs:=⟨_,rfl⟩
 obtain⟨kg,hkg⟩:∃kg,kg=decide (z<0):=⟨_,rfl⟩
 obtain⟨u,hu⟩:∃u,u=Dx z.natAbs:=⟨_,rfl⟩
 rw[<-hng,<-hs] at HBT HOX ⊢
 rw[<-hmg,<-ht] at HBT HOY ⊢
 have HKU:Hid (Ak z= .agg #[.bool kg,.string u]):=by unfold Hid Ak;rw[hkg,hu]
 rw[<-hkg,<-hu]
 clear hng hs hmg ht hkg hu
 obtain⟨W,hW⟩:∃W,W=((w.alloc (.cells #[.bool ng,.string s] 70)).alloc (.cells #[.bool mg,.string t] 70)).alloc (.cells #[.bool false,.string ⟨#[]⟩] 70):=⟨_,rfl⟩
 have h3:=Hw w (.cells #[.bool ng,.string s] 70) (.cells #[.bool mg,.string t] 70) (.cells #[.bool false,.string ⟨#[]⟩] 70)
 rw[<-hW] at h3
 have hsW:W.heap.size=w.heap.size+3:=by rw[hW];simp
 have HB:Hid (Below w.heap.size w W):=by unfold Hid;rw[hW];exact(((Below.refl _ _).alloc (Nat.le_refl _) _).alloc (by simp) _).alloc (by simp;omega) _
 obtain⟨a0,a1⟩:=Aw h3.1
 obtain⟨b0,b1⟩:=Aw h3.2.1
 have HH:=Lib.hid h3
 clear h3
 go_enter func123,ntmps123
 go_upto_region 1 with fail
 rw[<-hW]
 clear hW
 go_wp2_with fail
 refine(HBT.out _).mono ?_
 rintro e w1 ⟨rfl,hb1⟩
 have HB1:Hid (Below w.heap.size w w1):=HB.out.trans (hb1.mono HB.out.size)
 have hs1:w.heap.size+3<=w1.heap.size:=by have:=hb1.size;omega
 have CW:Hid (∀wa,Below w1.heap.size w1 wa->wa.heap[w.heap.size]?=some (.cells #[.bool ng,.string s] 70 (0,0))/\wa.heap[w.heap.size+1]?=some (.cells #[.bool mg,.string t] 70 (0,0))/\wa.heap[w.heap.size+2]?=some (.cells #[.bool false,.string ⟨#[]⟩] 70 (0,0))):=λwa h=>by
  have hb:=hb1.trans (h.mono hb1.size)
  rw[hb.block _ ω,hb.block _ ω,hb.block _ ω]
  exact HH.out
 clear a0 a1 b0 b1 hb1 hsW HB HH
 go_wp2_with fail
 have HOP:Hid (∀wa u v,Below w1.heap.size w1 wa->Cq x u wa->Cq y v wa->Calls Tryz.prog 148 #[u,v] wa λe w'=>∃v',e= .returned v'/\Below w1.heap.size w1 w'/\Below wa.heap.size wa w'/\Cq z v' w'):=λwa u v hC hu hv=>by
  rw[HZ.out]
  exact(Acy x y u v wa hu hv (Nat.le_trans HXD.out δ) (Nat.le_trans HYD.out δ)).mono λ_ _ h=>h.word hC
 have HWD:Hid (∀wa v,Below w1.heap.size w1 wa->Cq z v wa->Calls Tryz.prog 125 #[v] wa λe w'=>∃v',e= .returned v'/\Below w1.heap.size w1 w'/\Below wa.heap.size wa w'/\is (.tuple #[.agg #[.bool kg,.string u],.int .i64 0]) v' w'):=λwa v hC hv=>by
  refine(Pg z v wa hv (by rw[HZ.out];exact Nat.le_trans hzd δ)).mono ?_
  rintro e w' ⟨rfl,hb⟩
  refine⟨_,rfl,hC.trans (hb.mono hC.size),hb,?_⟩
  rw[Pf (by rw[HZ.out];exact HZF.out),HKU.out]
  exact rfl
 refine Dc 8 19 (λw'=>Below w1.heap.size w1 w') [is (.agg #[.bool ng,.string s]),Cq x,is (.agg #[.bool mg,.string t]),Cq y,Cq z,is (.tuple #[.agg #[.bool kg,.string u],.int .i64 0]),is (.agg #[.bool kg,.string u]),is (.int .i64 0)] κ κ rfl δ ?hst ?h0 ?hop ?htail
 case hst=>
  simp only[List.mem_cons,List.mem_nil_iff,or_false,forall_eq_or_imp,forall_eq]
  exact⟨Ab _,Dk _,Ab _,Dk _,Dk _,Ab _,Ab _,Ab _⟩
 case h0=>exact(Below.refl _ _).drew
 case hop=>
  refine⟨?_,?_,?_,?_,?_,?_,?_,?_,trivial⟩
  · exact Bb 70 (.tmp 2) (.pointer (some ⟨w.heap.size,0,none⟩)) (.agg #[.bool ng,.string s]) rfl κ (λwa hC=>Dq [.bool ng,.string s] wa κ κ (Lm (CW.out wa hC).1)) rfl
  · exact Cd 100 [.tmp 11] _ [.agg #[.bool ng,.string s]] rfl (λ_ _=>by kernel_rfl) ⟨κ,trivial⟩ (λwa hC=>(HOX.out wa).mono λ_ _ h=>h.word hC)
  · exact Bb 70 (.tmp 3) (.pointer (some ⟨w.heap.size+1,0,none⟩)) (.agg #[.bool mg,.string t]) rfl κ (λwa hC=>Dq [.bool mg,.string t] wa κ κ (Lm (CW.out wa hC).2.1)) rfl
  · exact Cd 100 [.tmp 13] _ [.agg #[.bool mg,.string t]] rfl (λ_ _=>by kernel_rfl) ⟨κ,trivial⟩ (λwa hC=>(HOY.out wa).mono λ_ _ h=>h.word hC)
  · exact Oy 148 (.tmp 12) (.tmp 14) _ (Cq x) (Cq y) rfl (λ_ _=>by kernel_rfl) κ κ HOP.out
  · exact Rr 125 (.tmp 15) _ (Cq z) rfl (λ_ _=>by kernel_rfl) κ HWD.out
  · exact Vy 16 (.tuple #[.agg #[.bool kg,.string u],.int .i64 0]) (.agg #[.bool kg,.string u]) rfl κ (λa wa _ e1=>by go_simp) rfl
  · exact Vy 16 (.tuple #[.agg #[.bool kg,.string u],.int .i64 0]) (.int .i64 0) rfl κ (λa wa _ e1=>by go_simp) rfl
 case htail=>
 intro τ w2 hC hR
 have r1:τ 6= .agg #[.bool kg,.string u]:=hR 6 δ
 have r2:τ 7= .int .i64 0:=hR 7 δ
 simp only[Bl,List.getElem?_toArray,List.getElem?_cons_succ,List.getElem?_cons_zero,Option.bind_some,Act.put,List.setIfInBounds_toArray,List.set_cons_succ,List.set_cons_zero,List.drop_succ_cons,List.drop_zero,r1,r2]
 clear hR r1 r2
 have h1:=(CW.out w2 hC).2.2
 have HB2:Hid (Below w.heap.size w w2):=HB1.out.trans (hC.mono HB1.out.size)
 obtain⟨c0,c1⟩:=Aw h1
 have f0:=Dv h1 0
 have f1:=Dv h1 1
 clear hC h1
 go_wp2_with fail
 obtain⟨w3,hw3⟩:∃w3,w3=(w2.setCell ⟨w.heap.size+2,0,none⟩ (.bool kg)).setCell ⟨w.heap.size+2,1,none⟩ (.string u):=⟨_,rfl⟩
 rw[<-hw3]
 obtain⟨k0,k1⟩:w3.cell? ⟨w.heap.size+2,0,none⟩=some (.bool kg)/\w3.cell? ⟨w.heap.size+2,1,none⟩=some (.string u):=by
  rw[hw3];exact Ey c0 c1
 refine bodyPost_ret (v:= .tuple #[.agg #[.bool kg,.string u],.int .i64 0]) (by simp[results,results123,go_sem,k0,k1]) rfl ?_
 refine⟨rfl,?_⟩
 rw[hw3]
 exact Below.store2 HB2.out ω _ _
theorem Nq {n m:Nat} (h:n<=m):bitLen n<=bitLen m:=Gk.2 (Nat.lt_of_le_of_lt h (Mn m))
theorem uF {x y:Int} (hx:Fp x) (hy:Fp y):Fp (Nat.gcd x.natAbs y.natAbs:Int):=by
 unfold Fp at*
 rw[Int.natAbs_natCast]
 by_cases h:x.natAbs=0
 rw[h,Nat.gcd_zero_left];exact hy
 exact Nat.le_trans (Nq (Nat.gcd_le_left _ (Nat.pos_of_ne_zero h))) hx
theorem Wt (x y:Int) (w:World) (hx:Fp x) (hy:Fp y):Calls Tryz.prog 147 #[Ak x,Ak y] w λe w'=>e= .returned (.int .i64 (x-y).sign)/\Below w.heap.size w w':=by
 have HBT:=Lib.hid (λw=>Qz x y w hx hy)
 have hxb:=hx.bytes
 have hyb:=hy.bytes
 have HOX:=Lib.hid (λw=>Mw x _ w rfl (Nat.le_trans hxb δ))
 have HOY:=Lib.hid (λw=>Mw y _ w rfl (Nat.le_trans hyb δ))
 have HXD:=Lib.hid hx.digits
 have HYD:=Lib.hid hy.digits
 clear hx hy hxb hyb
 obtain⟨sg,hsg⟩:∃sg,sg=(x-y).sign:=⟨_,rfl⟩
 rw[<-hsg]
 have HSE:=Lib.hid hsg
 clear hsg
 unfold Ak at*
 obtain⟨ng,hng⟩:∃ng,ng=decide (x<0):=⟨_,rfl⟩
 obtain⟨s,hs⟩:∃s,s=Dx x.natAbs:=⟨_,rfl⟩
 obtain⟨mg,hmg⟩:∃mg,mg=decide (y<0):=⟨_,rfl⟩
 obtain⟨t,ht⟩:∃t,t=Dx y.natAbs:=⟨_,rfl⟩
 rw[<-hng,<-hs] at HBT HOX ⊢
 rw[<-hmg,<-ht] at HBT HOY ⊢
 clear hng hs hmg ht
 obtain⟨W,hW⟩:∃W,W=(w.alloc (.cells #[.bool ng,.string s] 70)).alloc (.cells #[.bool mg,.string t] 70):=⟨_,rfl⟩
 have h3:=Od w (.cells #[.bool ng,.string s] 70) (.cells #[.bool mg,.string t] 70)
 rw[<-hW] at h3
 have hsW:W.heap.size=w.heap.size+2:=by rw[hW];simp
 have HB:Hid (Below w.heap.size w W):=by unfold Hid;rw[hW];exact((Below.refl _ _).alloc (Nat.le_refl _) _).alloc (by simp) _
 obtain⟨a0,a1⟩:=Aw h3.1
 obtain⟨b0,b1⟩:=Aw h3.2
 have HH:=Lib.hid h3
 clear h3
 go_enter func147,ntmps147
 go_upto_region 1 with fail
 rw[<-hW]
 clear hW
 go_wp2_with fail
 refine(HBT.out _).mono ?_
 rintro e w1 ⟨rfl,hb1⟩
 have HB1:Hid (Below w.heap.size w w1):=HB.out.trans (hb1.mono HB.out.size)
 have hs1:w.heap.size+2<=w1.heap.size:=by have:=hb1.size;omega
 have CW:Hid (∀wa,Below w1.heap.size w1 wa->wa.heap[w.heap.size]?=some (.cells #[.bool ng,.string s] 70 (0,0))/\wa.heap[w.heap.size+1]?=some (.cells #[.bool mg,.string t] 70 (0,0))):=λwa h=>by
  have hb:=hb1.trans (h.mono hb1.size)
  rw[hb.block _ ω,hb.block _ ω]
  exact HH.out
 clear a0 a1 b0 b1 hb1 hsW HB HH
 go_wp2_with fail
 have HNG:Hid (∀wa v,Below w1.heap.size w1 wa->Cq y v wa->Calls Tryz.prog 160 #[v] wa λe w'=>∃v',e= .returned v'/\Below w1.heap.size w1 w'/\Below wa.heap.size wa w'/\Cq (-y) v' w'):=λwa v hC hv=>
  (Adu y v wa hv).mono λ_ _ h=>h.word hC
 have HAD:Hid (∀wa u v,Below w1.heap.size w1 wa->Cq x u wa->Cq (-y) v wa->Calls Tryz.prog 130 #[u,v] wa λe w'=>∃v',e= .returned v'/\Below w1.heap.size w1 w'/\Below wa.heap.size wa w'/\Cq (x-y) v' w'):=λwa u v hC hu hv=>by
  rw[Int.sub_eq_add_neg]
  exact(pU x (-y) u v wa hu hv (Nat.le_trans HXD.out δ) (by rw[Int.natAbs_neg];exact Nat.le_trans HYD.out δ)).mono λ_ _ h=>h.word hC
 have HSG:Hid (∀wa v,Below w1.heap.size w1 wa->Cq (x-y) v wa->Calls Tryz.prog 161 #[v] wa λe w'=>∃v',e= .returned v'/\Below w1.heap.size w1 w'/\Below wa.heap.size wa w'/\is (.int .i64 sg) v' w'):=λwa v hC hv=>by
  refine(oV (x-y) v wa hv).mono ?_
  rintro e w' ⟨rfl,hb⟩
  exact⟨_,rfl,hC.trans (hb.mono hC.size),hb,by rw[HSE.out];exact rfl⟩
 refine Dc 7 16 (λw'=>Below w1.heap.size w1 w') [is (.agg #[.bool ng,.string s]),Cq x,is (.agg #[.bool mg,.string t]),Cq y,Cq (-y),Cq (x-y),is (.int .i64 sg)] κ κ rfl δ ?hst ?h0 ?hop ?htail
 case hst=>
  simp only[List.mem_cons,List.mem_nil_iff,or_false,forall_eq_or_imp,forall_eq]
  exact⟨Ab _,Dk _,Ab _,Dk _,Dk _,Dk _,Ab _⟩
 case h0=>exact(Below.refl _ _).drew
 case hop=>
  refine⟨?_,?_,?_,?_,?_,?_,?_,trivial⟩
  · exact Bb 70 (.tmp 2) (.pointer (some ⟨w.heap.size,0,none⟩)) (.agg #[.bool ng,.string s]) rfl κ (λwa hC=>Dq [.bool ng,.string s] wa κ κ (Lm (CW.out wa hC).1)) rfl
  · exact Cd 100 [.tmp 9] _ [.agg #[.bool ng,.string s]] rfl (λ_ _=>by kernel_rfl) ⟨κ,trivial⟩ (λwa hC=>(HOX.out wa).mono λ_ _ h=>h.word hC)
  · exact Bb 70 (.tmp 3) (.pointer (some ⟨w.heap.size+1,0,none⟩)) (.agg #[.bool mg,.string t]) rfl κ (λwa hC=>Dq [.bool mg,.string t] wa κ κ (Lm (CW.out wa hC).2)) rfl
  · exact Cd 100 [.tmp 11] _ [.agg #[.bool mg,.string t]] rfl (λ_ _=>by kernel_rfl) ⟨κ,trivial⟩ (λwa hC=>(HOY.out wa).mono λ_ _ h=>h.word hC)
  · exact Rr 160 (.tmp 12) _ (Cq y) rfl (λ_ _=>by kernel_rfl) κ HNG.out
  · exact Oy 130 (.tmp 10) (.tmp 13) _ (Cq x) (Cq (-y)) rfl (λ_ _=>by kernel_rfl) κ κ HAD.out
  · exact Rr 161 (.tmp 14) _ (Cq (x-y)) rfl (λ_ _=>by kernel_rfl) κ HSG.out
 case htail=>
 intro τ w2 hC hR
 have r6:τ 6= .int .i64 sg:=hR 6 δ
 simp only[Bl,List.getElem?_toArray,List.getElem?_cons_succ,List.getElem?_cons_zero,Option.bind_some,Act.put,List.setIfInBounds_toArray,List.set_cons_succ,List.set_cons_zero,List.drop_succ_cons,List.drop_zero,r6]
 clear hR r6
 have HB2:Hid (Below w.heap.size w w2):=HB1.out.trans (hC.mono HB1.out.size)
 clear hC
 go_wp2_with fail
 go_ret
 exact⟨rfl,HB2.out⟩
theorem Acv (x y:Int) (w:World) (hx:Fp x) (hy:Fp y):Calls Tryz.prog 126 #[Ak x,Ak y] w (Xb w (Nat.gcd x.natAbs y.natAbs:Int)):=by
 have HBT:=Lib.hid (λw=>Qz x y w hx hy)
 have hxb:=hx.bytes
 have hyb:=hy.bytes
 have HLX:=Lib.hid (λw=>Vt x.natAbs _ w rfl (Nat.le_trans hxb δ))
 have HLY:=Lib.hid (λw=>Vt y.natAbs _ w rfl (Nat.le_trans hyb δ))
 have HFZ:=Lib.hid (uF hx hy)
 have HXD:=Lib.hid hx.digits
 have HYD:=Lib.hid hy.digits
 clear hx hy hxb hyb
 obtain⟨z,hz⟩:∃z,z=(Nat.gcd x.natAbs y.natAbs:Int):=⟨_,rfl⟩
 have HZ:=Lib.hid hz
 have HZV:Hid (okW (Nat.gcd x.natAbs y.natAbs:Int)=okW z):=by rw[hz];exact rfl
 unfold Xb
 rw[HZV.out]
 clear hz HZV
 unfold okW
 unfold Ak at*
 obtain⟨ng,hng⟩:∃ng,ng=decide (x<0):=⟨_,rfl⟩
 obtain⟨s,hs⟩:∃s,s=Dx x.natAbs:=⟨_,rfl⟩
 obtain⟨mg,hmg⟩:∃mg,mg=decide (y<0):=⟨_,rfl⟩
 obtain⟨t,ht⟩:∃t,t=Dx y.natAbs:=⟨_,rfl⟩
 obtain⟨kg,hkg⟩:∃kg,kg=decide (z<0):=⟨_,rfl⟩
 obtain⟨u,hu⟩:∃u,u=Dx z.natAbs:=⟨_,rfl⟩
 rw[<-hng,<-hs] at HBT ⊢
 rw[<-hs] at HLX
 rw[<-hmg,<-ht] at HBT ⊢
 rw[<-ht] at HLY
 have HKU:Hid (Ak z= .agg #[.bool kg,.string u]):=by unfold Hid Ak;rw[hkg,hu]
 rw[<-hkg,<-hu]
 clear hng hs hmg ht hkg hu
 obtain⟨W,hW⟩:∃W,W=((w.alloc (.cells #[.bool ng,.string s] 70)).alloc (.cells #[.bool mg,.string t] 70)).alloc (.cells #[.bool false,.string ⟨#[]⟩] 70):=⟨_,rfl⟩
 have h3:=Hw w (.cells #[.bool ng,.string s] 70) (.cells #[.bool mg,.string t] 70) (.cells #[.bool false,.string ⟨#[]⟩] 70)
 rw[<-hW] at h3
 have hsW:W.heap.size=w.heap.size+3:=by rw[hW];simp
 have HB:Hid (Below w.heap.size w W):=by unfold Hid;rw[hW];exact(((Below.refl _ _).alloc (Nat.le_refl _) _).alloc (by simp) _).alloc (by simp;omega) _
 obtain⟨a0,a1⟩:=Aw h3.1
 obtain⟨b0,b1⟩:=Aw h3.2.1
 have HH:=Lib.hid h3
 clear h3
 go_enter func126,ntmps126
 go_upto_region 1 with fail
 rw[<-hW]
 clear hW
 go_wp2_with fail
 refine(HBT.out _).mono ?_
 rintro e w1 ⟨rfl,hb1⟩
 have HB1:Hid (Below w.heap.size w w1):=HB.out.trans (hb1.mono HB.out.size)
 have hs1:w.heap.size+3<=w1.heap.size:=by have:=hb1.size;omega
 have CW:Hid (∀wa,Below w1.heap.size w1 wa->wa.heap[w.heap.size]?=some (.cells #[.bool ng,.string s] 70 (0,0))/\wa.heap[w.heap.size+1]?=some (.cells #[.bool mg,.string t] 70 (0,0))/\wa.heap[w.heap.size+2]?=some (.cells #[.bool false,.string ⟨#[]⟩] 70 (0,0))):=λwa h=>by
  have hb:=hb1.trans (h.mono hb1.size)
  rw[hb.block _ ω,hb.block _ ω,hb.block _ ω]
  exact HH.out
 clear a0 a1 b0 b1 hb1 hsW HB HH
 go_wp2_with fail
 have HGC:Hid (∀wa u v,Below w1.heap.size w1 wa->Kt x.natAbs u wa->Kt y.natAbs v wa->Calls Tryz.prog 151 #[u,v] wa λe w'=>∃v',e= .returned v'/\Below w1.heap.size w1 w'/\Below wa.heap.size wa w'/\Kt (Nat.gcd x.natAbs y.natAbs) v' w'):=λwa u v hC hu hv=>
  (Ade _ _ u v 0 wa.heap.size 0 wa.heap.size wa hu hv (Nat.le_refl _) (Nat.le_refl _) (Nat.le_trans HXD.out δ) (Nat.le_trans HYD.out δ)).mono λ_ _ h=>h.word hC
 have HWD:Hid (∀wa v,Below w1.heap.size w1 wa->Cq z v wa->Calls Tryz.prog 125 #[v] wa λe w'=>∃v',e= .returned v'/\Below w1.heap.size w1 w'/\Below wa.heap.size wa w'/\is (.tuple #[.agg #[.bool kg,.string u],.int .i64 0]) v' w'):=λwa v hC hv=>by
  refine(Pg z v wa hv (by rw[HZ.out];exact Nat.le_trans HFZ.out.digits δ)).mono ?_
  rintro e w' ⟨rfl,hb⟩
  refine⟨_,rfl,hC.trans (hb.mono hC.size),hb,?_⟩
  rw[Pf (by rw[HZ.out];exact HFZ.out),HKU.out]
  exact rfl
 obtain⟨G,hG⟩:∃G,G=Nat.gcd x.natAbs y.natAbs:=⟨_,rfl⟩
 rw[<-hG] at HGC
 have HGZ:Hid (Ig false G=z):=by rw[HZ.out,hG];exact rfl
 clear hG
 refine Dc 11 22 (λw'=>Below w1.heap.size w1 w') [is (.pointer (some ⟨w.heap.size,1,none⟩)),is (.string s),Kt x.natAbs,is (.pointer (some ⟨w.heap.size+1,1,none⟩)),is (.string t),Kt y.natAbs,Kt G,Cq z,is (.tuple #[.agg #[.bool kg,.string u],.int .i64 0]),is (.agg #[.bool kg,.string u]),is (.int .i64 0)] κ κ rfl δ ?hst ?h0 ?hop ?htail
 case hst=>
  simp only[List.mem_cons,List.mem_nil_iff,or_false,forall_eq_or_imp,forall_eq]
  exact⟨Ab _,Ab _,Fz _,Ab _,Ab _,Fz _,Fz _,Dk _,Ab _,Ab _,Ab _⟩
 case h0=>exact(Below.refl _ _).drew
 case hop=>
  refine⟨?_,?_,?_,?_,?_,?_,?_,?_,?_,?_,?_,trivial⟩
  · exact Ch 70 (.tmp 2) 1 (.pointer (some ⟨w.heap.size,0,none⟩)) (.pointer (some ⟨w.heap.size,1,none⟩)) rfl κ (λw=>by kernel_rfl) rfl
  · exact Bb 9 (.tmp 11) (.pointer (some ⟨w.heap.size,1,none⟩)) (.string s) rfl κ (λwa hC=>As wa κ ((Aw (CW.out wa hC).1).2)) rfl
  · exact Cd 127 [.tmp 12] _ [.string s] rfl (λ_ _=>by kernel_rfl) ⟨κ,trivial⟩ (λwa hC=>(HLX.out wa).mono λ_ _ h=>h.word hC)
  · exact Ch 70 (.tmp 3) 1 (.pointer (some ⟨w.heap.size+1,0,none⟩)) (.pointer (some ⟨w.heap.size+1,1,none⟩)) rfl κ (λw=>by kernel_rfl) rfl
  · exact Bb 9 (.tmp 14) (.pointer (some ⟨w.heap.size+1,1,none⟩)) (.string t) rfl κ (λwa hC=>As wa κ ((Aw (CW.out wa hC).2.1).2)) rfl
  · exact Cd 127 [.tmp 15] _ [.string t] rfl (λ_ _=>by kernel_rfl) ⟨κ,trivial⟩ (λwa hC=>(HLY.out wa).mono λ_ _ h=>h.word hC)
  · exact Oy 151 (.tmp 13) (.tmp 16) _ (Kt x.natAbs) (Kt y.natAbs) rfl (λ_ _=>by kernel_rfl) κ κ HGC.out
  ·
   refine Gr λa wa hC hpre=>?_
   have h1:Kt G (a.eval (.tmp 17)) wa:=hpre (.tmp 17) (by simp[Op.operands])
   refine⟨.agg #[.bool false,a.eval (.tmp 17)],?_,⟨false,_,G,rfl,h1,HGZ.out⟩⟩
   have h2:=h1.1.slice
   generalize hv:a.eval (.tmp 17)=v at*
   obtain⟨A,c,rfl⟩:=h2
   have e1:a.tmps[17]?.getD undef= .slice A (Al G).length c:=by simpa [Act.eval] using hv
   clear hpre h1
   go_simp
  · exact Rr 125 (.tmp 18) _ (Cq z) rfl (λ_ _=>by kernel_rfl) κ HWD.out
  · exact Vy 19 (.tuple #[.agg #[.bool kg,.string u],.int .i64 0]) (.agg #[.bool kg,.string u]) rfl κ (λa wa _ e1=>by go_simp) rfl
  · exact Vy 19 (.tuple #[.agg #[.bool kg,.string u],.int .i64 0]) (.int .i64 0) rfl κ (λa wa _ e1=>by go_simp) rfl
 case htail=>
 intro τ w2 hC hR
 have r1:τ 9= .agg #[.bool kg,.string u]:=hR 9 δ
 have r2:τ 10= .int .i64 0:=hR 10 δ
 simp only[Bl,List.getElem?_toArray,List.getElem?_cons_succ,List.getElem?_cons_zero,Option.bind_some,Act.put,List.setIfInBounds_toArray,List.set_cons_succ,List.set_cons_zero,List.drop_succ_cons,List.drop_zero,r1,r2]
 clear hR r1 r2
 have h1:=(CW.out w2 hC).2.2
 have HB2:Hid (Below w.heap.size w w2):=HB1.out.trans (hC.mono HB1.out.size)
 obtain⟨c0,c1⟩:=Aw h1
 have f0:=Dv h1 0
 have f1:=Dv h1 1
 clear hC h1
 go_wp2_with fail
 obtain⟨w3,hw3⟩:∃w3,w3=(w2.setCell ⟨w.heap.size+2,0,none⟩ (.bool kg)).setCell ⟨w.heap.size+2,1,none⟩ (.string u):=⟨_,rfl⟩
 rw[<-hw3]
 obtain⟨k0,k1⟩:w3.cell? ⟨w.heap.size+2,0,none⟩=some (.bool kg)/\w3.cell? ⟨w.heap.size+2,1,none⟩=some (.string u):=by
  rw[hw3];exact Ey c0 c1
 refine bodyPost_ret (v:= .tuple #[.agg #[.bool kg,.string u],.int .i64 0]) (by simp[results,results126,go_sem,k0,k1]) rfl ?_
 refine⟨rfl,?_⟩
 rw[hw3]
 exact Below.store2 HB2.out ω _ _
theorem Jp {n:Int} (h0: -9223372036854775808<=n) (h1:n<=9223372036854775807):Fp n:=by
 refine Nat.le_trans (Nq (m:=Bw) ?_) δ
 have:Bw=18446744073709551616:=rfl
 omega
theorem Ld (n:Int) (w:World) (h0: -9223372036854775808<=n) (h1:n<=9223372036854775807):Calls Tryz.prog 95 #[.int .i64 n] w λe w'=>e= .returned (Ak n)/\Below w.heap.size w w':=by
 have hfit:=Jp h0 h1
 obtain⟨m,hm⟩:∃m,m=n.natAbs:=⟨_,rfl⟩
 have hmB:m<Bw:=by have:Bw=18446744073709551616:=rfl;omega
 obtain⟨kg,hkg⟩:∃kg,kg=decide (n<0):=⟨_,rfl⟩
 obtain⟨u,hu⟩:∃u,u=Dx n.natAbs:=⟨_,rfl⟩
 have HKU:Hid (Ak n= .agg #[.bool kg,.string u]):=by unfold Hid Ak;rw[hkg,hu]
 rw[HKU.out]
 have HSG:Hid (Ig kg m=n):=by rw[hkg,hm];exact AbX n
 have HF:=Lib.hid hfit
 have HMB:=Lib.hid hmB
 clear hu hfit
 obtain⟨W,hW⟩:∃W,W=w.alloc (.cells #[.bool false,.string ⟨#[]⟩] 70):=⟨_,rfl⟩
 have hh:W.heap[w.heap.size]?=some (.cells #[.bool false,.string ⟨#[]⟩] 70 (0,0)):=by rw[hW];exact heap_alloc_new w _
 have hsW:W.heap.size=w.heap.size+1:=by rw[hW];simp
 have HB:Hid (Below w.heap.size w W):=by unfold Hid;rw[hW];exact(Below.refl _ _).alloc (Nat.le_refl _) _
 have HH:=Lib.hid hh
 clear hh
 have hT:=Wr W m hmB 155
 rw[hsW] at hT
 have HT:=Lib.hid hT
 clear hT
 have HWD:Hid (∀wa v,Jh v wa n->Calls Tryz.prog 125 #[v] wa λe w'=>e= .returned (.tuple #[.agg #[.bool kg,.string u],.int .i64 0])/\Below wa.heap.size wa w'):=λwa v hv=>by
  have:=Pg n v wa hv (Nat.le_trans HF.out.digits δ)
  unfold tK at this
  rw[Pf HF.out,HKU.out] at this
  exact this
 by_cases hneg:n<0
 ·
  have hkt:kg=true:=by rw[hkg];simp[hneg]
  subst hkt
  obtain⟨m0,hm0⟩:∃m0:Nat,(m0:Int)=n+18446744073709551616:=⟨(n+18446744073709551616).toNat,ω⟩
  have HW0:Hid (IntKind.u64.wrap n=(m0:Int)):=by
   unfold Hid;rw[hm0];show n%18446744073709551616=_;omega
  have HW1':Hid (IntKind.u64.wrap (-(m0:Int))=(m:Int)):=by
   unfold Hid;show (-(m0:Int))%18446744073709551616=_;omega
  clear hm0 hkg hm hmB h0 h1
  go_enter func95,ntmps95
  go_upto_region 1 with fail
  rw[<-hW]
  clear hW
  have hw0:=HW0.out
  have hw1:=HW1'.out
  go_wp2_with fail
  refine HT.out.mono ?_
  rintro e w1 ⟨v,rfl,hv,hb1⟩
  obtain⟨A,c,rfl⟩:=hv.1.slice
  have HV:Hid (Jh (.agg #[.bool true,.slice A (Al m).length c]) w1 n):=⟨true,_,m,rfl,hv.more (Nat.zero_le _) (Nat.le_refl _),HSG.out⟩
  have HB1:Hid (Below w.heap.size w w1):=HB.out.trans (hb1.mono HB.out.size)
  have hw1:w1.heap[w.heap.size]?=some (.cells #[.bool false,.string ⟨#[]⟩] 70 (0,0)):=(hb1.block _ ω).trans HH.out
  have hs1:w.heap.size+1<=w1.heap.size:=by have:=hb1.size;omega
  have HW1:=Lib.hid hw1
  clear hv hb1 hw1 HT
  go_wp2_with fail
  refine(HWD.out _ _ HV.out).mono ?_
  rintro e w2 ⟨rfl,hb2⟩
  have HB2:Hid (Below w.heap.size w w2):=HB1.out.trans (hb2.mono HB1.out.size)
  have hw2:w2.heap[w.heap.size]?=some (.cells #[.bool false,.string ⟨#[]⟩] 70 (0,0)):=(hb2.block _ ω).trans HW1.out
  have hs2:w.heap.size+1<=w2.heap.size:=by have:=hb2.size;omega
  have hw3:(w2.alloc (.cells #[.bool true,.string u] 70)).heap[w.heap.size]?=some (.cells #[.bool false,.string ⟨#[]⟩] 70 (0,0)):=(Below.heap_alloc _ _ _ ω).trans hw2
  obtain⟨c0,c1⟩:=Aw hw3
  have f0:=Dv hw3 0
  have f1:=Dv hw3 1
  clear hb2 hw2 hw3
  go_wp2_with fail
  obtain⟨w4,hw4⟩:∃w4,w4=((w2.alloc (.cells #[.bool true,.string u] 70)).setCell ⟨w.heap.size,0,none⟩ (.bool true)).setCell ⟨w.heap.size,1,none⟩ (.string u):=⟨_,rfl⟩
  rw[<-hw4]
  obtain⟨k0,k1⟩:w4.cell? ⟨w.heap.size,0,none⟩=some (.bool true)/\w4.cell? ⟨w.heap.size,1,none⟩=some (.string u):=by
   rw[hw4];exact Ey c0 c1
  refine bodyPost_ret (v:= .agg #[.bool true,.string u]) (by simp[results,results95,go_sem,k0,k1]) rfl ?_
  refine⟨rfl,?_⟩
  rw[hw4]
  exact Below.store2 (HB2.out.alloc ω _) (Nat.le_refl _) _ _
 ·
  have hkt:kg=false:=by rw[hkg];simp;omega
  subst hkt
  obtain rfl:n=(m:Int):=by omega
  have HW0:Hid (IntKind.u64.wrap (m:Int)=(m:Int)):=Ca hmB
  have hn0:¬(m:Int)<0:=by omega
  clear hkg hm hmB h0 h1 hneg
  go_enter func95,ntmps95
  go_upto_region 1 with fail
  rw[<-hW]
  clear hW
  have hw0:=HW0.out
  go_wp2_with fail
  refine HT.out.mono ?_
  rintro e w1 ⟨v,rfl,hv,hb1⟩
  obtain⟨A,c,rfl⟩:=hv.1.slice
  have HV:Hid (Jh (.agg #[.bool false,.slice A (Al m).length c]) w1 (m:Int)):=⟨false,_,m,rfl,hv.more (Nat.zero_le _) (Nat.le_refl _),HSG.out⟩
  have HB1:Hid (Below w.heap.size w w1):=HB.out.trans (hb1.mono HB.out.size)
  have hw1:w1.heap[w.heap.size]?=some (.cells #[.bool false,.string ⟨#[]⟩] 70 (0,0)):=(hb1.block _ ω).trans HH.out
  have hs1:w.heap.size+1<=w1.heap.size:=by have:=hb1.size;omega
  have HW1:=Lib.hid hw1
  clear hv hb1 hw1 HT
  go_wp2_with fail
  refine(HWD.out _ _ HV.out).mono ?_
  rintro e w2 ⟨rfl,hb2⟩
  have HB2:Hid (Below w.heap.size w w2):=HB1.out.trans (hb2.mono HB1.out.size)
  have hw2:w2.heap[w.heap.size]?=some (.cells #[.bool false,.string ⟨#[]⟩] 70 (0,0)):=(hb2.block _ ω).trans HW1.out
  have hs2:w.heap.size+1<=w2.heap.size:=by have:=hb2.size;omega
  have hw3:(w2.alloc (.cells #[.bool false,.string u] 70)).heap[w.heap.size]?=some (.cells #[.bool false,.string ⟨#[]⟩] 70 (0,0)):=(Below.heap_alloc _ _ _ ω).trans hw2
  obtain⟨c0,c1⟩:=Aw hw3
  have f0:=Dv hw3 0
  have f1:=Dv hw3 1
  clear hb2 hw2 hw3
  go_wp2_with fail
  obtain⟨w4,hw4⟩:∃w4,w4=((w2.alloc (.cells #[.bool false,.string u] 70)).setCell ⟨w.heap.size,0,none⟩ (.bool false)).setCell ⟨w.heap.size,1,none⟩ (.string u):=⟨_,rfl⟩
  rw[<-hw4]
  obtain⟨k0,k1⟩:w4.cell? ⟨w.heap.size,0,none⟩=some (.bool false)/\w4.cell? ⟨w.heap.size,1,none⟩=some (.string u):=by
   rw[hw4];exact Ey c0 c1
  refine bodyPost_ret (v:= .agg #[.bool false,.string u]) (by simp[results,results95,go_sem,k0,k1]) rfl ?_
  refine⟨rfl,?_⟩
  rw[hw4]
  exact Below.store2 (HB2.out.alloc ω _) (Nat.le_refl _) _ _
theorem pR (z:Int) (w:World) (h0: -9223372036854775808<=z) (h1:z<=9223372036854775807):Calls Tryz.prog 68 #[Ak z] w λe w'=>e= .returned (.tuple #[.int .i64 z,.int .i64 0])/\Below w.heap.size w w':=by
 have hfit:=Jp h0 h1
 have HVA:=Lib.hid (λw=>Ju z w hfit)
 have HOF:=Lib.hid (λw=>Mw z _ w rfl (Nat.le_trans hfit.bytes δ))
 have hnB:z.natAbs<Bw:=by have:Bw=18446744073709551616:=rfl;omega
 have HR0:=Lib.hid h0
 have HR1:=Lib.hid h1
 clear hfit h0 h1
 unfold Ak at*
 obtain⟨ng,hng⟩:∃ng,ng=decide (z<0):=⟨_,rfl⟩
 obtain⟨s,hs⟩:∃s,s=Dx z.natAbs:=⟨_,rfl⟩
 rw[<-hng,<-hs] at HVA HOF ⊢
 have HNB:=Lib.hid hnB
 clear hng hs hnB
 obtain⟨W,hW⟩:∃W,W=w.alloc (.cells #[.bool ng,.string s] 70):=⟨_,rfl⟩
 have hh:W.heap[w.heap.size]?=some (.cells #[.bool ng,.string s] 70 (0,0)):=by rw[hW];exact heap_alloc_new w _
 have hsW:W.heap.size=w.heap.size+1:=by rw[hW];simp
 have HB:Hid (Below w.heap.size w W):=by unfold Hid;rw[hW];exact(Below.refl _ _).alloc (Nat.le_refl _) _
 obtain⟨a0,a1⟩:=Aw hh
 have HH:=Lib.hid hh
 clear hh
 go_enter func68,ntmps68
 go_upto_region 1 with fail
 rw[<-hW]
 clear hW
 go_wp2_with fail
 refine(HVA.out _).mono ?_
 rintro e w1 ⟨rfl,hb1⟩
 have HB1:Hid (Below w.heap.size w w1):=HB.out.trans (hb1.mono HB.out.size)
 obtain⟨b0,b1⟩:=Aw ((hb1.block w.heap.size ω).trans HH.out)
 clear a0 a1 hb1 HB HH hsW
 go_wp2_with fail
 refine(HOF.out _).mono ?_
 rintro e w2 ⟨v,rfl,hv,hb2⟩
 have HB2:Hid (Below w.heap.size w w2):=HB1.out.trans (hb2.mono HB1.out.size)
 clear b0 b1 hb2 HB1
 obtain⟨kg,mv,n,rfl,hn,hz⟩:=hv
 have hna:z.natAbs=n:=by rw[<-hz,Zr]
 have hnB:n<Bw:=by rw[<-hna];exact HNB.out
 have hll:(Al n).length<=1:=Fn (by rw[Nat.pow_one];exact hnB)
 by_cases hn0:n=0
 ·
  have hz0:z=0:=by omega
  subst hz0
  obtain⟨A,c,rfl⟩:=hn.1.slice
  have hlen:(Al n).length=0:=by rw[hn0,Db];rfl
  rw[hlen]
  clear hn hz hna hnB hll hn0 hlen
  go_wp2_with fail
  go_ret2
  exact⟨rfl,HB2.out.alloc HB2.out.size _⟩
 ·
  have hpos:0<(Al n).length:=List.length_pos_iff.2 λe=>hn0 (Iu.1 e)
  have hl1:(Al n).length=1:=by omega
  obtain⟨b,o,c,rfl,_,hb,hc⟩:=hn.1.pos hpos
  have hdn:dg (Al n) 0=n:=by
   have:=Ei (Al n) 0
   rw[Im ω,Df,Kz] at this
   simp at this;exact this.symm
  have g0:w2.cell? ⟨b,o,none⟩=some (.int .u64 (n:Int)):=by
   have:=hc 0 _ (Ds (Al n) 0 hpos)
   rw[hdn] at this;exact this
  rw[hl1]
  have HB3:Hid (Below w.heap.size w (w2.alloc (.cells #[.bool kg,.slice (some ⟨b,o,none⟩) 1 c] 153))):=HB2.out.alloc HB2.out.size _
  have g1:(w2.alloc (.cells #[.bool kg,.slice (some ⟨b,o,none⟩) 1 c] 153)).cell? ⟨b,o,none⟩=some (.int .u64 (n:Int)):=(Below.cell ((Below.refl w2.heap.size w2).alloc (Nat.le_refl _) _) (p:=⟨b,o,none⟩) hb).trans g0
  cases kg with
  |true=>
   have hzn:z= -(n:Int):=by rw[<-hz];rfl
   have HLT:Hid (decide ((9223372036854775808:Int)<(n:Int))=false):=by unfold Hid;have:=HR0.out;simp;omega
   obtain⟨k,hk⟩:∃k:Nat,(k:Int)=18446744073709551616-(n:Int):=⟨(18446744073709551616-(n:Int)).toNat,by have:Bw=18446744073709551616:=rfl;omega⟩
   have HW0:Hid (IntKind.u64.wrap (-(n:Int))=(k:Int)):=by
    unfold Hid;show (-(n:Int))%18446744073709551616=_
    omega
   have HW1:Hid (IntKind.i64.wrap (k:Int)=z):=by
    unfold Hid;rw[IntKind.wrap_i64,hk];have:=HR0.out;omega
   have HW2:Hid (wrap64 (k:Int)=z):=by
    unfold Hid wrap64;rw[hk];have:=HR0.out;omega
   have HNL:Hid (n<=9223372036854775808):=by unfold Hid;have:=HR0.out;omega
   clear hn hz hna hnB hll hn0 hc hdn hl1 hpos g0 hzn hk
   go_wp2_with (first|rw[HLT.out]|rw[HW0.out]|rw[HW1.out]|rw[HW2.out])
   all_goals first
    |(exfalso;have:=HNL.out;omega)
    |(go_ret2;exact⟨rfl,HB3.out⟩)
  |false=>
   have hzn:z=(n:Int):=by rw[<-hz];rfl
   have HLT:Hid (decide ((9223372036854775808:Int)<(n:Int))=false):=by unfold Hid;have:=HR1.out;simp;omega
   have HLE:Hid (decide ((9223372036854775808:Int)<=(n:Int))=false):=by unfold Hid;have:=HR1.out;simp;omega
   have HW1:Hid (IntKind.i64.wrap (n:Int)=z):=by unfold Hid;rw[IntKind.wrap_i64];have:=HR1.out;omega
   have HW2:Hid (wrap64 (n:Int)=z):=by unfold Hid wrap64;have:=HR1.out;omega
   have HNL:Hid (n<9223372036854775808):=by unfold Hid;have:=HR1.out;omega
   clear hn hz hna hnB hll hn0 hc hdn hl1 hpos g0 hzn
   go_wp2_with (first|rw[HLT.out]|rw[HLE.out]|rw[HW1.out]|rw[HW2.out])
   all_goals first
    |(exfalso;have:=HNL.out;omega)
    |(go_ret2;exact⟨rfl,HB3.out⟩)
def Hb (x y:Int) (v:Value) (w:World):Prop:=∃v1 v2,v= .tuple #[v1,v2]/\Jh v1 w x/\Jh v2 w y
theorem We (x y:Int):Hp (Hb x y):=λ_ _ _ hb ⟨v1,v2,h1,h2,h3⟩=>⟨v1,v2,h1,h2.up hb,h3.up hb⟩
theorem AcY {x y:Int} (hx:Fp x):Fp (x/y):=Nat.le_trans (Nq (Int.natAbs_ediv_le_natAbs x y)) hx
theorem Ado {x y:Int} (hy:Fp y) (h0:y≠0):Fp (x%y):=by
 refine Nat.le_trans (Nq (m:=y.natAbs) ?_) hy
 have h1:=Int.emod_nonneg x h0
 have h2:x%y<(y.natAbs:Int):=Int.emod_lt x h0
 omega
theorem Jh.store2 {w:World} {v:Value} {z:Int} {b:Nat} {x0 x1:Value} {t:TypeId} {fz:Nat×Nat} (h:Jh v w z) (hb:w.heap[b]?=some (.cells #[x0,x1] t fz)) (h0:No x0) (h1:No x1) (u0 u1:Value):
  Jh v ((w.setCell ⟨b,0,none⟩ u0).setCell ⟨b,1,none⟩ u1) z:=by
 obtain⟨ng,mv,n,e,hn,hz⟩:=h
 refine⟨ng,mv,n,e,?_,hz⟩
 rw[Gb]
 exact hn.store2 hb h0 h1 _ _
theorem Fy {w:World} {b:Nat} (u0 u1:Value) {k:Nat} (hk:k≠b):((w.setCell ⟨b,0,none⟩ u0).setCell ⟨b,1,none⟩ u1).heap[k]?=w.heap[k]?:=by
 rw[Below.heap_setCell _ ⟨b,1,none⟩ _ _ hk,Below.heap_setCell _ ⟨b,0,none⟩ _ _ hk]
theorem Pc {w:World} {b:Nat} {x0 x1:Value} {t:TypeId} {fz:Nat×Nat} (hb:w.heap[b]?=some (.cells #[x0,x1] t fz)) (u0 u1:Value):((w.setCell ⟨b,0,none⟩ u0).setCell ⟨b,1,none⟩ u1).heap[b]?=some (.cells #[u0,u1] t fz):=by
 simp[World.setCell,Array.getElem?_modify,hb]
def Tk (w:World) (b:Nat) (st:Bool) (z:Int):Prop:=
 if st then ∃g A n c,w.heap[b]?=some (.cells #[.bool g,.slice A (Al n).length c] 153 (0,0))/\Bi w 0 w.heap.size (.slice A (Al n).length c) n/\Ig g n=z
 else w.heap[b]?=some (.cells #[.bool false,.slice none 0 0] 153 (0,0))
theorem Tk.lt {w:World} {b:Nat} {st:Bool} {z:Int} (h:Tk w b st z):b<w.heap.size:=by
 cases st with
 |false=>exact(Array.getElem?_eq_some_iff.1 h).1
 |true=>obtain⟨_,_,_,_,h,_⟩:=h;exact(Array.getElem?_eq_some_iff.1 h).1
theorem Tk.up {w w':World} {b:Nat} {st:Bool} {z:Int} (h:Tk w b st z) (hb:Below w.heap.size w w'):Tk w' b st z:=by
 have hl:=h.lt
 cases st with
 |false=>exact(hb.block b hl).trans h
 |true=>
  obtain⟨g,A,n,c,h1,h2,h3⟩:=h
  exact⟨g,A,n,c,(hb.block b hl).trans h1,h2.up (Nat.le_refl _) hb,h3⟩
theorem Tk.store {w:World} {b b':Nat} {st:Bool} {z:Int} (h:Tk w b st z) {x0 x1:Value} {t:TypeId} {fz:Nat×Nat} (hb:w.heap[b']?=some (.cells #[x0,x1] t fz)) (h0:No x0) (h1:No x1) (hne:b≠b') (u0 u1:Value):
  Tk ((w.setCell ⟨b',0,none⟩ u0).setCell ⟨b',1,none⟩ u1) b st z:=by
 cases st with
 |false=>exact(Fy u0 u1 hne).trans h
 |true=>
  obtain⟨g,A,n,c,e1,e2,e3⟩:=h
  refine⟨g,A,n,c,(Fy u0 u1 hne).trans e1,?_,e3⟩
  rw[Gb]
  exact e2.store2 hb h0 h1 _ _
def Sm (r:Value->World->Prop):Prop:=∀(v:Value) (w:World) (b:Nat) (x0 x1:Value) (t:TypeId) (fz:Nat×Nat) (u0 u1:Value),w.heap[b]?=some (.cells #[x0,x1] t fz)->No x0->No x1->r v w->r v ((w.setCell ⟨b,0,none⟩ u0).setCell ⟨b,1,none⟩ u1)
theorem bE (x:Value):Sm (is x):=λ_ _ _ _ _ _ _ _ _ _ _ _ h=>h
theorem Mf (z:Int):Sm (Cq z):=λ_ _ _ _ _ _ _ u0 u1 hb h0 h1 h=>Jh.store2 h hb h0 h1 u0 u1
theorem Tp (x y:Int):Sm (Hb x y):=λ_ _ _ _ _ _ _ u0 u1 hb h0 h1 ⟨v1,v2,e,h2,h3⟩=>⟨v1,v2,e,h2.store2 hb h0 h1 u0 u1,h3.store2 hb h0 h1 u0 u1⟩
structure QJ (W1:World) (Ws:List (Value->World->Prop)) (q r:Int) (σ:Nat->Value) (L:Nat->Bool) (w:World):Prop where
 below:Below W1.heap.size W1 w
 words:∀j,L j=true->Kq Ws j (σ j) w
 e1:L 8=true->∃b,σ 8= .pointer (some ⟨b,0,none⟩)/\W1.heap.size<=b/\Tk w b (L 10) q
 e2:L 9=true->∃b,σ 9= .pointer (some ⟨b,0,none⟩)/\W1.heap.size<=b/\Tk w b (L 11) r
 e3:L 8=true->L 9=true->σ 8≠σ 9
 e4:L 10=true->L 8=true
 e5:L 11=true->L 9=true
theorem QJ.plain {W1:World} {Ws:List (Value->World->Prop)} {q r:Int} (hst:∀r∈Ws,Hp r) {i:Nat} (hi:i<8) (σ:Nat->Value) (L:Nat->Bool) (w w':World) (v:Value) (h:QJ W1 Ws q r σ L w) (_:L i=false) (hC:Below W1.heap.size W1 w') (hb:Below w.heap.size w w') (hv:Kq Ws i v w'):
  QJ W1 Ws q r (λj=>if j=i then v else σ j) (λj=>if j=i then true else L j) w':=by
 refine⟨hC,λj hj=>?_,λhj=>?_,λhj=>?_,λhj hk=>?_,λhj=>?_,λhj=>?_⟩
 by_cases e:j=i
 subst e;simpa using hv
 simp only[if_neg e] at hj ⊢
 exact Kf hst j _ _ _ hb (h.words j hj)
 simp only[if_neg (show ¬8=i by omega),if_neg (show ¬10=i by omega)] at hj ⊢
 obtain⟨b,h1,h2,h3⟩:=h.e1 hj
 exact⟨b,h1,h2,h3.up hb⟩
 simp only[if_neg (show ¬9=i by omega),if_neg (show ¬11=i by omega)] at hj ⊢
 obtain⟨b,h1,h2,h3⟩:=h.e2 hj
 exact⟨b,h1,h2,h3.up hb⟩
 simp only[if_neg (show ¬8=i by omega),if_neg (show ¬9=i by omega)] at hj hk ⊢
 exact h.e3 hj hk
 simp only[if_neg (show ¬10=i by omega),if_neg (show ¬8=i by omega)] at hj ⊢
 exact h.e4 hj
 simp only[if_neg (show ¬11=i by omega),if_neg (show ¬9=i by omega)] at hj ⊢
 exact h.e5 hj
theorem Sy {Ws:List (Value->World->Prop)} {j:Nat} (h:Ws.length<=j) (v:Value) (w:World):Kq Ws j v w:=by
 unfold Kq;rw[List.getD_eq_getElem?_getD,List.getElem?_eq_none h];trivial
theorem QJ.alloc8 {W1:World} {Ws:List (Value->World->Prop)} {q r:Int} (hst:∀r∈Ws,Hp r) (hlen:Ws.length<=8) {ops:Array Oper} {n:Nat} {a0:Act} {Q:Exit->Act->World->Prop} {o:Oper}
  (hrun:∀(a:Act) (w:World),(execOp a.eval o).run Tryz.prog w= .ok (.value (.pointer (some ⟨w.heap.size,0,none⟩))) (w.alloc (.cells #[.bool false,.slice none 0 0] 153))):Qk Tryz.prog ops n (QJ W1 Ws q r) a0 Q 8 o:=by
 intro a w σ L _ _ _ _ hi h
 unfold Oper.wp
 rw[hrun a w]
 have hb:Below w.heap.size w (w.alloc (.cells #[.bool false,.slice none 0 0] 153)):=(Below.refl _ _).alloc (Nat.le_refl _) _
 have hS:L 10=false:=by
  cases hx:L 10 with
  |false=>rfl
  |true=>have:=h.e4 hx;rw[hi] at this;cases this
 refine⟨_,rfl,h.below.alloc h.below.size _,λj hj=>?_,λhj=>?_,λhj=>?_,λhj hk=>?_,λhj=>?_,λhj=>?_⟩
 by_cases e:j=8
 subst e;exact Sy ω _ _
 simp only[if_neg e] at hj ⊢
 exact Kf hst j _ _ _ hb (h.words j hj)
 simp only[if_true,if_neg (show ¬10=8 by decide)] at hj ⊢
 rw[hS]
 exact⟨_,rfl,h.below.size,heap_alloc_new w _⟩
 simp only[if_neg (show ¬9=8 by decide),if_neg (show ¬11=8 by decide)] at hj ⊢
 obtain⟨b,h1,h2,h3⟩:=h.e2 hj
 exact⟨b,h1,h2,h3.up hb⟩
 simp only[if_true,if_neg (show ¬9=8 by decide)] at hj hk ⊢
 intro e
 obtain⟨b,h1,_,h3⟩:=h.e2 (by first|exact hj|exact hk)
 rw[h1] at e
 cases e
 exact absurd h3.lt (Nat.lt_irrefl _)
 simp only[if_neg (show ¬10=8 by decide)] at hj ⊢
 split
 rfl
 exact h.e4 hj
 simp only[if_neg (show ¬11=8 by decide)] at hj ⊢
 split
 rfl
 exact h.e5 hj
theorem QJ.alloc9 {W1:World} {Ws:List (Value->World->Prop)} {q r:Int} (hst:∀r∈Ws,Hp r) (hlen:Ws.length<=8) {ops:Array Oper} {n:Nat} {a0:Act} {Q:Exit->Act->World->Prop} {o:Oper}
  (hrun:∀(a:Act) (w:World),(execOp a.eval o).run Tryz.prog w= .ok (.value (.pointer (some ⟨w.heap.size,0,none⟩))) (w.alloc (.cells #[.bool false,.slice none 0 0] 153))):Qk Tryz.prog ops n (QJ W1 Ws q r) a0 Q 9 o:=by
 intro a w σ L _ _ _ _ hi h
 unfold Oper.wp
 rw[hrun a w]
 have hb:Below w.heap.size w (w.alloc (.cells #[.bool false,.slice none 0 0] 153)):=(Below.refl _ _).alloc (Nat.le_refl _) _
 have hS:L 11=false:=by
  cases hx:L 11 with
  |false=>rfl
  |true=>have:=h.e5 hx;rw[hi] at this;cases this
 refine⟨_,rfl,h.below.alloc h.below.size _,λj hj=>?_,λhj=>?_,λhj=>?_,λhj hk=>?_,λhj=>?_,λhj=>?_⟩
 by_cases e:j=9
 subst e;exact Sy ω _ _
 simp only[if_neg e] at hj ⊢
 exact Kf hst j _ _ _ hb (h.words j hj)
 simp only[if_neg (show ¬8=9 by decide),if_neg (show ¬10=9 by decide)] at hj ⊢
 obtain⟨b,h1,h2,h3⟩:=h.e1 hj
 exact⟨b,h1,h2,h3.up hb⟩
 simp only[if_true,if_neg (show ¬11=9 by decide)] at hj ⊢
 rw[hS]
 exact⟨_,rfl,h.below.size,heap_alloc_new w _⟩
 simp only[if_true,if_neg (show ¬8=9 by decide)] at hj hk ⊢
 intro e
 obtain⟨b,h1,_,h3⟩:=h.e1 (by first|exact hj|exact hk)
 rw[h1] at e
 cases e
 exact absurd h3.lt (Nat.lt_irrefl _)
 simp only[if_neg (show ¬10=9 by decide)] at hj ⊢
 split
 rfl
 exact h.e4 hj
 simp only[if_neg (show ¬11=9 by decide)] at hj ⊢
 split
 rfl
 exact h.e5 hj
theorem QJ.store10 {W1:World} {Ws:List (Value->World->Prop)} {q r:Int} (hst:∀r∈Ws,Sm r) (hlen:Ws.length<=8) (hW:Kq Ws 6=Cq q) {ops:Array Oper} {n:Nat} {a0:Act} {Q:Exit->Act->World->Prop} {o:Oper}
  (ho:o={ o with op:= .store 153 (.tmp 7) (.tmp 26),dst:=none }) (hs1:Cb ops n 7=some 8) (hs2:Cb ops n 26=some 6):Qk Tryz.prog ops n (QJ W1 Ws q r) a0 Q 10 o:=by
 intro a w σ L _ ht _ _ hi h
 have hop:o.op= .store 153 (.tmp 7) (.tmp 26):=by rw[ho]
 have hdst:o.dst=none:=by rw[ho]
 obtain⟨hl,hv⟩:=ht 7 8 (by rw[hop];simp[Op.operands]) hs1
 obtain⟨hl2,hv2⟩:=ht 26 6 (by rw[hop];simp[Op.operands]) hs2
 obtain⟨b,h1,h2,h3⟩:=h.e1 hl
 rw[hi] at h3
 have hcell:w.heap[b]?=some (.cells #[.bool false,.slice none 0 0] 153 (0,0)):=h3
 have hword:=h.words 6 hl2
 rw[hW] at hword
 obtain⟨g,mv,m,e1,hn,hz⟩:=hword
 obtain⟨A,c,rfl⟩:=hn.1.slice
 have hrun:(execOp a.eval o).run Tryz.prog w= .ok .skip ((w.setCell ⟨b,0,none⟩ (.bool g)).setCell ⟨b,1,none⟩ (.slice A (Al m).length c)):=by
  obtain⟨c0,c1⟩:=Aw hcell
  have f0:=Dv hcell 0
  have f1:=Dv hcell 1
  have x1:a.tmps[7]?.getD undef= .pointer (some ⟨b,0,none⟩):=by rw[<-h1,<-hv];simp
  have x2:a.tmps[26]?.getD undef= .agg #[.bool g,.slice A (Al m).length c]:=by rw[<-e1,<-hv2];simp
  clear hv hv2 h1 e1 h h2 h3 hcell hn hz ht ho hst hW
  unfold execOp
  rw[hop]
  go_simp
 unfold Oper.wp
 rw[hrun]
 refine⟨undef,by rw[hdst],Below.store2 h.below h2 _ _,λj hj=>?_,λhj=>?_,λhj=>?_,λhj hk=>?_,λhj=>?_,λhj=>?_⟩
 ·
  by_cases e:j=10
  · subst e;exact Sy ω _ _
  ·
   simp only[if_neg e] at hj ⊢
   have hw:=h.words j hj
   unfold Kq at*
   rw[List.getD_eq_getElem?_getD] at*
   cases hx:Ws[j]? with
   |none=>trivial
   |some r'=>rw[hx] at hw;exact hst r' (List.mem_of_getElem? hx) _ _ _ _ _ _ _ _ _ hcell trivial trivial hw
 ·
  simp only[if_neg (show ¬8=10 by decide),if_true] at hj ⊢
  exact⟨b,h1,h2,g,A,m,c,Pc hcell _ _,by rw[Gb];exact hn.store2 hcell trivial trivial _ _,hz⟩
 ·
  simp only[if_neg (show ¬9=10 by decide),if_neg (show ¬11=10 by decide)] at hj ⊢
  obtain⟨b',k1,k2,k3⟩:=h.e2 hj
  refine⟨b',k1,k2,k3.store hcell trivial trivial (λe=>?_) _ _⟩
  subst e
  exact h.e3 (by first|exact hj|exact hl) (by first|exact hl|exact hj) (by rw[h1,k1])
 ·
  simp only[if_neg (show ¬8=10 by decide),if_neg (show ¬9=10 by decide)] at hj hk ⊢
  exact h.e3 hj hk
 ·
  simp only[if_neg (show ¬8=10 by decide)] at hj ⊢
  exact hl
 ·
  simp only[if_neg (show ¬9=10 by decide)] at hj ⊢
  simp only[if_neg (show ¬11=10 by decide)] at hj;exact h.e5 hj
theorem QJ.store11 {W1:World} {Ws:List (Value->World->Prop)} {q r:Int} (hst:∀r∈Ws,Sm r) (hlen:Ws.length<=8) (hW:Kq Ws 7=Cq r) {ops:Array Oper} {n:Nat} {a0:Act} {Q:Exit->Act->World->Prop} {o:Oper}
  (ho:o={ o with op:= .store 153 (.tmp 8) (.tmp 27),dst:=none }) (hs1:Cb ops n 8=some 9) (hs2:Cb ops n 27=some 7):Qk Tryz.prog ops n (QJ W1 Ws q r) a0 Q 11 o:=by
 intro a w σ L _ ht _ _ hi h
 have hop:o.op= .store 153 (.tmp 8) (.tmp 27):=by rw[ho]
 have hdst:o.dst=none:=by rw[ho]
 obtain⟨hl,hv⟩:=ht 8 9 (by rw[hop];simp[Op.operands]) hs1
 obtain⟨hl2,hv2⟩:=ht 27 7 (by rw[hop];simp[Op.operands]) hs2
 obtain⟨b,h1,h2,h3⟩:=h.e2 hl
 rw[hi] at h3
 have hcell:w.heap[b]?=some (.cells #[.bool false,.slice none 0 0] 153 (0,0)):=h3
 have hword:=h.words 7 hl2
 rw[hW] at hword
 obtain⟨g,mv,m,e1,hn,hz⟩:=hword
 obtain⟨A,c,rfl⟩:=hn.1.slice
 have hrun:(execOp a.eval o).run Tryz.prog w= .ok .skip ((w.setCell ⟨b,0,none⟩ (.bool g)).setCell ⟨b,1,none⟩ (.slice A (Al m).length c)):=by
  obtain⟨c0,c1⟩:=Aw hcell
  have f0:=Dv hcell 0
  have f1:=Dv hcell 1
  have x1:a.tmps[8]?.getD undef= .pointer (some ⟨b,0,none⟩):=by rw[<-h1,<-hv];simp
  have x2:a.tmps[27]?.getD undef= .agg #[.bool g,.slice A (Al m).length c]:=by rw[<-e1,<-hv2];simp
  clear hv hv2 h1 e1 h h2 h3 hcell hn hz ht ho hst hW
  unfold execOp
  rw[hop]
  go_simp
 unfold Oper.wp
 rw[hrun]
 refine⟨undef,by rw[hdst],Below.store2 h.below h2 _ _,λj hj=>?_,λhj=>?_,λhj=>?_,λhj hk=>?_,λhj=>?_,λhj=>?_⟩
 ·
  by_cases e:j=11
  · subst e;exact Sy ω _ _
  ·
   simp only[if_neg e] at hj ⊢
   have hw:=h.words j hj
   unfold Kq at*
   rw[List.getD_eq_getElem?_getD] at*
   cases hx:Ws[j]? with
   |none=>trivial
   |some r'=>rw[hx] at hw;exact hst r' (List.mem_of_getElem? hx) _ _ _ _ _ _ _ _ _ hcell trivial trivial hw
 ·
  simp only[if_neg (show ¬8=11 by decide),if_neg (show ¬10=11 by decide)] at hj ⊢
  obtain⟨b',k1,k2,k3⟩:=h.e1 hj
  refine⟨b',k1,k2,k3.store hcell trivial trivial (λe=>?_) _ _⟩
  subst e
  exact h.e3 (by first|exact hj|exact hl) (by first|exact hl|exact hj) (by rw[h1,k1])
 ·
  simp only[if_neg (show ¬9=11 by decide),if_true] at hj ⊢
  exact⟨b,h1,h2,g,A,m,c,Pc hcell _ _,by rw[Gb];exact hn.store2 hcell trivial trivial _ _,hz⟩
 ·
  simp only[if_neg (show ¬8=11 by decide),if_neg (show ¬9=11 by decide)] at hj hk ⊢
  exact h.e3 hj hk
 ·
  simp only[if_neg (show ¬8=11 by decide)] at hj ⊢
  simp only[if_neg (show ¬10=11 by decide)] at hj;exact h.e4 hj
 ·
  simp only[if_neg (show ¬9=11 by decide)] at hj ⊢
  exact hl
def iK (w:World) (x y:Int) (e:Ending) (w':World):Prop:=e= .returned (.tuple #[Ak (x/y),Ak (x%y),.int .i64 0])/\Below w.heap.size w w'
theorem Acx (x y:Int) (w:World) (hx:Fp x) (hy:Fp y) (hy0:y≠0):Calls Tryz.prog 101 #[Ak x,Ak y] w (iK w x y):=by
 have HBT:=Lib.hid (λw=>Qz x y w hx hy)
 have hxb:=hx.bytes
 have hyb:=hy.bytes
 have HOX:=Lib.hid (λw=>Mw x _ w rfl (Nat.le_trans hxb δ))
 have HOY:=Lib.hid (λw=>Mw y _ w rfl (Nat.le_trans hyb δ))
 have HXD:=Lib.hid hx.digits
 have HYD:=Lib.hid hy.digits
 have HFQ:=Lib.hid (AcY (y:=y) hx)
 have HFR:=Lib.hid (Ado (x:=x) hy hy0)
 have hey:=eO (n:=y.natAbs)
 rw[show decide (y.natAbs=0)=false by simp[hy0]] at hey
 have HY0:=Lib.hid hy0
 clear hx hy hxb hyb hy0
 obtain⟨q,hq⟩:∃q,q=x/y:=⟨_,rfl⟩
 obtain⟨r,hr⟩:∃r,r=x%y:=⟨_,rfl⟩
 have HQ:=Lib.hid hq
 have HR:=Lib.hid hr
 unfold iK
 rw[<-hq] at HFQ ⊢
 rw[<-hr] at HFR ⊢
 clear hq hr
 unfold Ak at*
 obtain⟨ng,hng⟩:∃ng,ng=decide (x<0):=⟨_,rfl⟩
 obtain⟨s,hs⟩:∃s,s=Dx x.natAbs:=⟨_,rfl⟩
 obtain⟨mg,hmg⟩:∃mg,mg=decide (y<0):=⟨_,rfl⟩
 obtain⟨t,ht⟩:∃t,t=Dx y.natAbs:=⟨_,rfl⟩
 obtain⟨qg,hqg⟩:∃kg,kg=decide (q<0):=⟨_,rfl⟩
 obtain⟨qs,hqs⟩:∃u,u=Dx q.natAbs:=⟨_,rfl⟩
 obtain⟨rg,hrg⟩:∃kg,kg=decide (r<0):=⟨_,rfl⟩
 obtain⟨rs,hrs⟩:∃u,u=Dx r.natAbs:=⟨_,rfl⟩
 rw[<-hng,<-hs] at HBT HOX ⊢
 rw[<-hmg,<-ht] at HBT HOY ⊢
 rw[<-ht] at hey
 have HQV:Hid (Ak q= .agg #[.bool qg,.string qs]):=by unfold Hid Ak;rw[hqg,hqs]
 have HRV:Hid (Ak r= .agg #[.bool rg,.string rs]):=by unfold Hid Ak;rw[hrg,hrs]
 rw[<-hqg,<-hqs,<-hrg,<-hrs]
 clear hng hs hmg ht hqg hqs hrg hrs
 have HWQ:Hid (∀wa v,Jh v wa q->Calls Tryz.prog 125 #[v] wa λe w'=>e= .returned (.tuple #[.agg #[.bool qg,.string qs],.int .i64 0])/\Below wa.heap.size wa w'):=λwa v hv=>by
  have:=Pg q v wa hv (Nat.le_trans HFQ.out.digits δ)
  unfold tK at this
  rw[Pf HFQ.out,HQV.out] at this
  exact this
 have HWR:Hid (∀wa v,Jh v wa r->Calls Tryz.prog 125 #[v] wa λe w'=>e= .returned (.tuple #[.agg #[.bool rg,.string rs],.int .i64 0])/\Below wa.heap.size wa w'):=λwa v hv=>by
  have:=Pg r v wa hv (Nat.le_trans HFR.out.digits δ)
  unfold tK at this
  rw[Pf HFR.out,HRV.out] at this
  exact this
 obtain⟨W,hW⟩:∃W,W=(((w.alloc (.cells #[.bool ng,.string s] 70)).alloc (.cells #[.bool mg,.string t] 70)).alloc (.cells #[.bool false,.string ⟨#[]⟩] 70)).alloc (.cells #[.bool false,.string ⟨#[]⟩] 70):=⟨_,rfl⟩
 have h3:=mS w (.cells #[.bool ng,.string s] 70) (.cells #[.bool mg,.string t] 70) (.cells #[.bool false,.string ⟨#[]⟩] 70) (.cells #[.bool false,.string ⟨#[]⟩] 70)
 rw[<-hW] at h3
 have hsW:W.heap.size=w.heap.size+4:=by rw[hW];simp
 have HB:Hid (Below w.heap.size w W):=by unfold Hid;rw[hW];exact((((Below.refl _ _).alloc (Nat.le_refl _) _).alloc (by simp) _).alloc (by simp;omega) _).alloc (by simp;omega) _
 obtain⟨a0,a1⟩:=Aw h3.1
 obtain⟨b0,b1⟩:=Aw h3.2.1
 have HH:=Lib.hid h3
 clear h3
 go_enter func101,ntmps101
 go_upto_region 1 with fail
 rw[<-hW]
 clear hW
 go_wp2_with fail
 refine(HBT.out _).mono ?_
 rintro e w1 ⟨rfl,hb1⟩
 have HB1:Hid (Below w.heap.size w w1):=HB.out.trans (hb1.mono HB.out.size)
 have hs1:w.heap.size+4<=w1.heap.size:=by have:=hb1.size;omega
 have CW:Hid (∀wa,Below w1.heap.size w1 wa->wa.heap[w.heap.size]?=some (.cells #[.bool ng,.string s] 70 (0,0))/\wa.heap[w.heap.size+1]?=some (.cells #[.bool mg,.string t] 70 (0,0))/\wa.heap[w.heap.size+2]?=some (.cells #[.bool false,.string ⟨#[]⟩] 70 (0,0))/\wa.heap[w.heap.size+3]?=some (.cells #[.bool false,.string ⟨#[]⟩] 70 (0,0))):=λwa h=>by
  have hb:=hb1.trans (h.mono hb1.size)
  rw[hb.block _ ω,hb.block _ ω,hb.block _ ω,hb.block _ ω]
  exact HH.out
 obtain⟨b0',b1'⟩:=Aw (CW.out w1 (Below.refl _ _)).2.1
 clear a0 a1 b0 b1 hb1 hsW HB HH
 have HDV:Hid (∀wa u v,Below w1.heap.size w1 wa->Cq x u wa->Cq y v wa->Calls Tryz.prog 129 #[u,v] wa λe w'=>∃v',e= .returned v'/\Below w1.heap.size w1 w'/\Below wa.heap.size wa w'/\Hb q r v' w'):=λwa u v hC hu hv=>by
  refine(pX x y u v wa hu hv (Nat.le_trans HXD.out δ) (Nat.le_trans HYD.out δ) HY0.out).mono ?_
  rintro e w' ⟨v1,v2,rfl,h1,h2,hb⟩
  rw[<-HQ.out] at h1
  rw[<-HR.out] at h2
  exact⟨_,rfl,hC.trans (hb.mono hC.size),hb,v1,v2,rfl,h1,h2⟩
 go_wp2_with fail
 clear b0' b1'
 have HST:Hid (∀r'∈[is (.agg #[.bool ng,.string s]),Cq x,is (.agg #[.bool mg,.string t]),Cq y,Hb q r,Hb q r,Cq q,Cq r],Hp r'):=by
  unfold Hid
  simp only[List.mem_cons,List.mem_nil_iff,or_false,forall_eq_or_imp,forall_eq]
  exact⟨Ab _,Dk _,Ab _,Dk _,We _ _,We _ _,Dk _,Dk _⟩
 have HST2:Hid (∀r'∈[is (.agg #[.bool ng,.string s]),Cq x,is (.agg #[.bool mg,.string t]),Cq y,Hb q r,Hb q r,Cq q,Cq r],Sm r'):=by
  unfold Hid
  simp only[List.mem_cons,List.mem_nil_iff,or_false,forall_eq_or_imp,forall_eq]
  exact⟨bE _,Mf _,bE _,Mf _,Tp _ _,Tp _ _,Mf _,Mf _⟩
 refine kE 40 (QJ w1 [is (.agg #[.bool ng,.string s]),Cq x,is (.agg #[.bool mg,.string t]),Cq y,Hb q r,Hb q r,Cq q,Cq r] q r) κ κ rfl ?h0 ?hop ?hend
 case h0=>exact⟨(Below.refl _ _).drew,λj h=>by(cases h),λh=>by(cases h),λh=>by(cases h),λh=>by(cases h),λh=>by(cases h),λh=>by(cases h)⟩
 case hop=>
  refine⟨?_,?_,?_,?_,?_,?_,?_,?_,?_,?_,?_,?_,trivial⟩
  ·
   refine Rt (C:=λw'=>Below w1.heap.size w1 w') (R:=Kq [is (.agg #[.bool ng,.string s]),Cq x,is (.agg #[.bool mg,.string t]),Cq y,Hb q r,Hb q r,Cq q,Cq r]) (λ_ _ _ h=>h.below) (λ_ _ _ j h hj=>h.words j hj) (QJ.plain HST.out (i:=0) δ) ?_
   exact Bb 70 (.tmp 2) (.pointer (some ⟨w.heap.size,0,none⟩)) (.agg #[.bool ng,.string s]) rfl κ (λwa hC=>Dq [.bool ng,.string s] wa κ κ (Lm (CW.out wa hC).1)) rfl
  ·
   refine Rt (C:=λw'=>Below w1.heap.size w1 w') (R:=Kq [is (.agg #[.bool ng,.string s]),Cq x,is (.agg #[.bool mg,.string t]),Cq y,Hb q r,Hb q r,Cq q,Cq r]) (λ_ _ _ h=>h.below) (λ_ _ _ j h hj=>h.words j hj) (QJ.plain HST.out (i:=1) δ) ?_
   exact Cd 100 [.tmp 21] _ [.agg #[.bool ng,.string s]] rfl (λ_ _=>by kernel_rfl) ⟨κ,trivial⟩ (λwa hC=>(HOX.out wa).mono λ_ _ h=>h.word hC)
  ·
   refine Rt (C:=λw'=>Below w1.heap.size w1 w') (R:=Kq [is (.agg #[.bool ng,.string s]),Cq x,is (.agg #[.bool mg,.string t]),Cq y,Hb q r,Hb q r,Cq q,Cq r]) (λ_ _ _ h=>h.below) (λ_ _ _ j h hj=>h.words j hj) (QJ.plain HST.out (i:=2) δ) ?_
   exact Bb 70 (.tmp 3) (.pointer (some ⟨w.heap.size+1,0,none⟩)) (.agg #[.bool mg,.string t]) rfl κ (λwa hC=>Dq [.bool mg,.string t] wa κ κ (Lm (CW.out wa hC).2.1)) rfl
  ·
   refine Rt (C:=λw'=>Below w1.heap.size w1 w') (R:=Kq [is (.agg #[.bool ng,.string s]),Cq x,is (.agg #[.bool mg,.string t]),Cq y,Hb q r,Hb q r,Cq q,Cq r]) (λ_ _ _ h=>h.below) (λ_ _ _ j h hj=>h.words j hj) (QJ.plain HST.out (i:=3) δ) ?_
   exact Cd 100 [.tmp 23] _ [.agg #[.bool mg,.string t]] rfl (λ_ _=>by kernel_rfl) ⟨κ,trivial⟩ (λwa hC=>(HOY.out wa).mono λ_ _ h=>h.word hC)
  ·
   refine Rt (C:=λw'=>Below w1.heap.size w1 w') (R:=Kq [is (.agg #[.bool ng,.string s]),Cq x,is (.agg #[.bool mg,.string t]),Cq y,Hb q r,Hb q r,Cq q,Cq r]) (λ_ _ _ h=>h.below) (λ_ _ _ j h hj=>h.words j hj) (QJ.plain HST.out (i:=4) δ) ?_
   exact Oy 129 (.tmp 22) (.tmp 24) _ (Cq x) (Cq y) rfl (λ_ _=>by kernel_rfl) κ κ HDV.out
  ·
   refine Rt (C:=λw'=>Below w1.heap.size w1 w') (R:=Kq [is (.agg #[.bool ng,.string s]),Cq x,is (.agg #[.bool mg,.string t]),Cq y,Hb q r,Hb q r,Cq q,Cq r]) (λ_ _ _ h=>h.below) (λ_ _ _ j h hj=>h.words j hj) (QJ.plain HST.out (i:=5) δ) ?_
   exact Cy (.tmp 25) (Hb q r) rfl κ (λ_ _ _ h=>h)
  ·
   refine Rt (C:=λw'=>Below w1.heap.size w1 w') (R:=Kq [is (.agg #[.bool ng,.string s]),Cq x,is (.agg #[.bool mg,.string t]),Cq y,Hb q r,Hb q r,Cq q,Cq r]) (λ_ _ _ h=>h.below) (λ_ _ _ j h hj=>h.words j hj) (QJ.plain HST.out (i:=6) δ) ?_
   refine Gr λa wa hC hpre=>?_
   have h1:Hb q r (a.eval (.tmp 20)) wa:=hpre (.tmp 20) (by simp[Op.operands])
   generalize hv:a.eval (.tmp 20)=v at*
   obtain⟨v1,v2,rfl,hh1,hh2⟩:=h1
   have e1:a.tmps[20]?.getD undef= .tuple #[v1,v2]:=by simpa [Act.eval] using hv
   clear hpre
   refine⟨v1,?_,hh1⟩
   clear hh1 hh2
   go_simp
  ·
   refine Rt (C:=λw'=>Below w1.heap.size w1 w') (R:=Kq [is (.agg #[.bool ng,.string s]),Cq x,is (.agg #[.bool mg,.string t]),Cq y,Hb q r,Hb q r,Cq q,Cq r]) (λ_ _ _ h=>h.below) (λ_ _ _ j h hj=>h.words j hj) (QJ.plain HST.out (i:=7) δ) ?_
   refine Gr λa wa hC hpre=>?_
   have h1:Hb q r (a.eval (.tmp 20)) wa:=hpre (.tmp 20) (by simp[Op.operands])
   generalize hv:a.eval (.tmp 20)=v at*
   obtain⟨v1,v2,rfl,hh1,hh2⟩:=h1
   have e1:a.tmps[20]?.getD undef= .tuple #[v1,v2]:=by simpa [Act.eval] using hv
   clear hpre
   refine⟨v2,?_,hh2⟩
   clear hh1 hh2
   go_simp
  · exact QJ.alloc8 HST.out (by simp) (λa w=>by go_simp)
  · exact QJ.alloc9 HST.out (by simp) (λa w=>by go_simp)
  · exact QJ.store10 HST2.out (by simp) rfl rfl κ κ
  · exact QJ.store11 HST2.out (by simp) rfl rfl κ κ
 case hend=>
 intro τ L w2 hL hJ
 obtain⟨bx,hx8,hbx,hcx⟩:=hJ.e1 (hL 8 δ)
 obtain⟨bY,hx9,hbY,hcy⟩:=hJ.e2 (hL 9 δ)
 have hne:=hJ.e3 (hL 8 δ) (hL 9 δ)
 rw[hL 10 δ] at hcx
 rw[hL 11 δ] at hcy
 rw[hx8,hx9] at hne
 have hbne:bx≠bY:=λe=>hne (by rw[e])
 simp only[List.length_cons,List.length_nil,Nat.zero_add,Nat.reduceAdd,Bl,List.getElem?_toArray,List.getElem?_cons_succ,List.getElem?_cons_zero,Option.bind_some,Act.put,List.setIfInBounds_toArray,List.set_cons_succ,List.set_cons_zero,hx8,hx9]
 have HB2:=Lib.hid hJ.below
 clear hne hL hJ hx8 hx9
 obtain⟨g1,A1,n1,c1,x1,x2,x3⟩:∃g A n c,w2.heap[bx]?=some (.cells #[.bool g,.slice A (Al n).length c] 153 (0,0))/\Bi w2 0 w2.heap.size (.slice A (Al n).length c) n/\Ig g n=q:=hcx
 obtain⟨g2,A2,n2,c2,y1,y2,y3⟩:∃g A n c,w2.heap[bY]?=some (.cells #[.bool g,.slice A (Al n).length c] 153 (0,0))/\Bi w2 0 w2.heap.size (.slice A (Al n).length c) n/\Ig g n=r:=hcy
 have HN1:Hid (Jh (.agg #[.bool g1,.slice A1 (Al n1).length c1]) w2 q):=⟨g1,_,n1,rfl,x2,x3⟩
 have HN2:Hid (Jh (.agg #[.bool g2,.slice A2 (Al n2).length c2]) w2 r):=⟨g2,_,n2,rfl,y2,y3⟩
 have HY1:=Lib.hid y1
 obtain⟨p0,p1⟩:=Aw x1
 obtain⟨_,_,d2,d3⟩:=CW.out w2 HB2.out
 have HD2:=Lib.hid d2
 have HD3:=Lib.hid d3
 have hs2:w.heap.size+4<=w2.heap.size:=by have:=HB2.out.size;omega
 have hyl:bY<w2.heap.size:=(Array.getElem?_eq_some_iff.1 y1).1
 have HBW2:Hid (Below w.heap.size w w2):=HB1.out.trans (HB2.out.mono HB1.out.size)
 clear x1 x2 x3 y1 y2 y3 d2 d3 CW HB2
 go_wp2_with fail
 refine(HWQ.out _ _ HN1.out).mono ?_
 rintro e w3 ⟨rfl,hb3⟩
 have HBW3:Hid (Below w.heap.size w w3):=HBW2.out.trans (hb3.mono ω)
 have k2:=(hb3.block (w.heap.size+2) ω).trans HD2.out
 have k3:=(hb3.block (w.heap.size+3) ω).trans HD3.out
 have kY:=(hb3.block bY hyl).trans HY1.out
 have HN23:Hid (Jh (.agg #[.bool g2,.slice A2 (Al n2).length c2]) w3 r):=HN2.out.up hb3
 have hs3:w.heap.size+4<=w3.heap.size:=by have:=hb3.size;omega
 obtain⟨c0,c1'⟩:=Aw k2
 have f0:=Dv k2 0
 have f1:=Dv k2 1
 have HK2:=Lib.hid k2
 have HK3:=Lib.hid k3
 have HKY:=Lib.hid kY
 have hY4:((w3.setCell ⟨w.heap.size+1+1,0,none⟩ (.bool qg)).setCell ⟨w.heap.size+1+1,1,none⟩ (.string qs)).heap[bY]?=some (.cells #[.bool g2,.slice A2 (Al n2).length c2] 153 (0,0)):=(Fy _ _ ω).trans kY
 obtain⟨z0,z1⟩:=Aw hY4
 clear p0 p1 hb3 k2 k3 kY HN1 HN2 HY1 HD2 HD3 hY4
 go_wp2_with fail
 obtain⟨w4,hw4⟩:∃w4,w4=(w3.setCell ⟨w.heap.size+1+1,0,none⟩ (.bool qg)).setCell ⟨w.heap.size+1+1,1,none⟩ (.string qs):=⟨_,rfl⟩
 rw[<-hw4]
 have HN24:Hid (Jh (.agg #[.bool g2,.slice A2 (Al n2).length c2]) w4 r):=by unfold Hid;rw[hw4];exact HN23.out.store2 HK2.out trivial trivial _ _
 have HK24:Hid (w4.heap[w.heap.size+2]?=some (.cells #[.bool qg,.string qs] 70 (0,0))):=by unfold Hid;rw[hw4];exact Pc HK2.out _ _
 have HK34:Hid (w4.heap[w.heap.size+3]?=some (.cells #[.bool false,.string ⟨#[]⟩] 70 (0,0))):=by unfold Hid;rw[hw4];exact(Fy _ _ ω).trans HK3.out
 have HB4:Hid (Below w.heap.size w w4):=by unfold Hid;rw[hw4];exact Below.store2 HBW3.out ω _ _
 have hs4:w.heap.size+4<=w4.heap.size:=by rw[hw4,Gb];exact hs3
 clear hw4 z0 z1 c0 c1' f0 f1 HK2 HK3 HKY HN23 HBW3
 refine(HWR.out _ _ HN24.out).mono ?_
 rintro e w5 ⟨rfl,hb5⟩
 have HB5:Hid (Below w.heap.size w w5):=HB4.out.trans (hb5.mono ω)
 have k2:=(hb5.block (w.heap.size+2) ω).trans HK24.out
 have k3:=(hb5.block (w.heap.size+3) ω).trans HK34.out
 obtain⟨c0,c1'⟩:=Aw k3
 have f0:=Dv k3 0
 have f1:=Dv k3 1
 have HK25:=Lib.hid k2
 have HK35:=Lib.hid k3
 clear hb5 k2 k3 HN24 HK24 HK34
 go_upto_region 8 with fail
 obtain⟨w6,hw6⟩:∃w6,w6=(w5.setCell ⟨w.heap.size+1+1+1,0,none⟩ (.bool rg)).setCell ⟨w.heap.size+1+1+1,1,none⟩ (.string rs):=⟨_,rfl⟩
 rw[<-hw6]
 have k2:w6.heap[w.heap.size+1+1]?=some (.cells #[.bool qg,.string qs] 70 (0,0)):=by rw[hw6];exact(Fy _ _ ω).trans HK25.out
 have k3:w6.heap[w.heap.size+1+1+1]?=some (.cells #[.bool rg,.string rs] 70 (0,0)):=by rw[hw6];exact Pc HK35.out _ _
 have HB6:Hid (Below w.heap.size w w6):=by unfold Hid;rw[hw6];exact Below.store2 HB5.out ω _ _
 clear hw6 c0 c1' f0 f1 HK25 HK35 HB5
 obtain⟨c0,c1'⟩:=Aw k2
 obtain⟨c2',c3⟩:=Aw k3
 have f0:=Dv k2 0
 have f1:=Dv k2 1
 have f2:=Dv k3 0
 have f3:=Dv k3 1
 have HK2:=Lib.hid k2
 have HK3:=Lib.hid k3
 clear k2 k3
 go_region
 obtain⟨w7,hw7⟩:∃w7,w7=(((w6.setCell ⟨w.heap.size+1+1,0,none⟩ (.bool qg)).setCell ⟨w.heap.size+1+1,1,none⟩ (.string qs)).setCell ⟨w.heap.size+1+1+1,0,none⟩ (.bool rg)).setCell ⟨w.heap.size+1+1+1,1,none⟩ (.string rs):=⟨_,rfl⟩
 rw[<-hw7]
 obtain⟨p0,p1,p2,p3⟩:w7.cell? ⟨w.heap.size+1+1,0,none⟩=some (.bool qg)/\w7.cell? ⟨w.heap.size+1+1,1,none⟩=some (.string qs)/\w7.cell? ⟨w.heap.size+1+1+1,0,none⟩=some (.bool rg)/\w7.cell? ⟨w.heap.size+1+1+1,1,none⟩=some (.string rs):=by
  rw[hw7];exact Wm ω c0 c1' c2' c3
 have HB7:Hid (Below w.heap.size w w7.drew):=by unfold Hid;rw[hw7];exact(Below.store2 (Below.store2 HB6.out ω _ _) ω _ _).drew
 clear hw7
 go_wp2_with fail
 refine bodyPost_ret (v:= .tuple #[.agg #[.bool qg,.string qs],.agg #[.bool rg,.string rs],.int .i64 0]) (by simp[results,results101,go_sem,p0,p1,p2,p3]) rfl ?_
 exact⟨rfl,HB7.out⟩
theorem oS (x y:Int) (w:World) (hx:Fp x) (hy:Fp y) (hr:Fp (x+y)):Calls Tryz.prog 70 #[Ak x,Ak y] w λe w'=>e= .returned (Ak (x+y))/\Below w.heap.size w w':=by
 obtain⟨z,hz⟩:∃z,z=x+y:=⟨_,rfl⟩
 skip
 have HOP:Hid (∀wa,Calls Tryz.prog 102 #[Ak x,Ak y] wa λe w'=>e= .returned (.tuple #[Ak (x+y),.int .i64 0])/\Below wa.heap.size wa w'):=λwa=>by
  have:=pP x y wa hx hy hr
  skip
  exact this
 rw[<-hz] at HOP ⊢
 clear hx hy hr hz
 unfold Ak at*
 obtain⟨ng,hng⟩:∃ng,ng=decide (x<0):=⟨_,rfl⟩
 obtain⟨s,hs⟩:∃s,s=Dx x.natAbs:=⟨_,rfl⟩
 obtain⟨mg,hmg⟩:∃mg,mg=decide (y<0):=⟨_,rfl⟩
 obtain⟨t,ht⟩:∃t,t=Dx y.natAbs:=⟨_,rfl⟩
 obtain⟨kg,hkg⟩:∃kg,kg=decide (z<0):=⟨_,rfl⟩
 obtain⟨u,hu⟩:∃u,u=Dx z.natAbs:=⟨_,rfl⟩
 rw[<-hng,<-hs,<-hmg,<-ht,<-hkg,<-hu] at HOP
 rw[<-hng,<-hs,<-hmg,<-ht,<-hkg,<-hu]
 clear hng hs hmg ht hkg hu
 obtain⟨W,hW⟩:∃W,W=((w.alloc (.cells #[.bool ng,.string s] 70)).alloc (.cells #[.bool mg,.string t] 70)).alloc (.cells #[.bool false,.string ⟨#[]⟩] 70):=⟨_,rfl⟩
 have h3:=Hw w (.cells #[.bool ng,.string s] 70) (.cells #[.bool mg,.string t] 70) (.cells #[.bool false,.string ⟨#[]⟩] 70)
 rw[<-hW] at h3
 have hsW:W.heap.size=w.heap.size+3:=by rw[hW];simp
 have HB:Hid (Below w.heap.size w W):=by unfold Hid;rw[hW];exact(((Below.refl _ _).alloc (Nat.le_refl _) _).alloc (by simp) _).alloc (by simp;omega) _
 obtain⟨a0,a1⟩:=Aw h3.1
 obtain⟨b0,b1⟩:=Aw h3.2.1
 have HH:=Lib.hid h3.2.2
 clear h3
 go_enter func70,ntmps70
 go_upto_region 1 with fail
 rw[<-hW]
 clear hW
 go_wp2_with fail
 refine(HOP.out _).mono ?_
 rintro e w1 ⟨rfl,hb1⟩
 have HB1:Hid (Below w.heap.size w w1):=HB.out.trans (hb1.mono HB.out.size)
 have hs1:w.heap.size+3<=w1.heap.size:=by have:=hb1.size;omega
 have hw3:(w1.alloc (.cells #[.bool kg,.string u] 70)).heap[w.heap.size+2]?=some (.cells #[.bool false,.string ⟨#[]⟩] 70 (0,0)):=(Below.heap_alloc _ _ _ ω).trans ((hb1.block _ ω).trans HH.out)
 obtain⟨c0,c1⟩:=Aw hw3
 have f0:=Dv hw3 0
 have f1:=Dv hw3 1
 clear hb1 hw3 a0 a1 b0 b1 HB HH hsW
 go_wp2_with fail
 obtain⟨w4,hw4⟩:∃w4,w4=((w1.alloc (.cells #[.bool kg,.string u] 70)).setCell ⟨w.heap.size+2,0,none⟩ (.bool kg)).setCell ⟨w.heap.size+2,1,none⟩ (.string u):=⟨_,rfl⟩
 rw[<-hw4]
 obtain⟨k0,k1⟩:w4.cell? ⟨w.heap.size+2,0,none⟩=some (.bool kg)/\w4.cell? ⟨w.heap.size+2,1,none⟩=some (.string u):=by
  rw[hw4];exact Ey c0 c1
 refine bodyPost_ret (v:= .agg #[.bool kg,.string u]) (by simp[results,results70,go_sem,k0,k1]) rfl ?_
 refine⟨rfl,?_⟩
 rw[hw4]
 exact Below.store2 (HB1.out.alloc ω _) ω _ _
theorem Wn (x y:Int) (w:World) (hx:Fp x) (hy:Fp y) (hr:Fp (x*y)):Calls Tryz.prog 94 #[Ak x,Ak y] w λe w'=>e= .returned (Ak (x*y))/\Below w.heap.size w w':=by
 obtain⟨z,hz⟩:∃z,z=x*y:=⟨_,rfl⟩
 skip
 have HOP:Hid (∀wa,Calls Tryz.prog 123 #[Ak x,Ak y] wa λe w'=>e= .returned (.tuple #[Ak (x*y),.int .i64 0])/\Below wa.heap.size wa w'):=λwa=>by
  have:=pS x y wa hx hy hr
  skip
  exact this
 rw[<-hz] at HOP ⊢
 clear hx hy hr hz
 unfold Ak at*
 obtain⟨ng,hng⟩:∃ng,ng=decide (x<0):=⟨_,rfl⟩
 obtain⟨s,hs⟩:∃s,s=Dx x.natAbs:=⟨_,rfl⟩
 obtain⟨mg,hmg⟩:∃mg,mg=decide (y<0):=⟨_,rfl⟩
 obtain⟨t,ht⟩:∃t,t=Dx y.natAbs:=⟨_,rfl⟩
 obtain⟨kg,hkg⟩:∃kg,kg=decide (z<0):=⟨_,rfl⟩
 obtain⟨u,hu⟩:∃u,u=Dx z.natAbs:=⟨_,rfl⟩
 rw[<-hng,<-hs,<-hmg,<-ht,<-hkg,<-hu] at HOP
 rw[<-hng,<-hs,<-hmg,<-ht,<-hkg,<-hu]
 clear hng hs hmg ht hkg hu
 obtain⟨W,hW⟩:∃W,W=((w.alloc (.cells #[.bool ng,.string s] 70)).alloc (.cells #[.bool mg,.string t] 70)).alloc (.cells #[.bool false,.string ⟨#[]⟩] 70):=⟨_,rfl⟩
 have h3:=Hw w (.cells #[.bool ng,.string s] 70) (.cells #[.bool mg,.string t] 70) (.cells #[.bool false,.string ⟨#[]⟩] 70)
 rw[<-hW] at h3
 have hsW:W.heap.size=w.heap.size+3:=by rw[hW];simp
 have HB:Hid (Below w.heap.size w W):=by unfold Hid;rw[hW];exact(((Below.refl _ _).alloc (Nat.le_refl _) _).alloc (by simp) _).alloc (by simp;omega) _
 obtain⟨a0,a1⟩:=Aw h3.1
 obtain⟨b0,b1⟩:=Aw h3.2.1
 have HH:=Lib.hid h3.2.2
 clear h3
 go_enter func94,ntmps94
 go_upto_region 1 with fail
 rw[<-hW]
 clear hW
 go_wp2_with fail
 refine(HOP.out _).mono ?_
 rintro e w1 ⟨rfl,hb1⟩
 have HB1:Hid (Below w.heap.size w w1):=HB.out.trans (hb1.mono HB.out.size)
 have hs1:w.heap.size+3<=w1.heap.size:=by have:=hb1.size;omega
 have hw3:(w1.alloc (.cells #[.bool kg,.string u] 70)).heap[w.heap.size+2]?=some (.cells #[.bool false,.string ⟨#[]⟩] 70 (0,0)):=(Below.heap_alloc _ _ _ ω).trans ((hb1.block _ ω).trans HH.out)
 obtain⟨c0,c1⟩:=Aw hw3
 have f0:=Dv hw3 0
 have f1:=Dv hw3 1
 clear hb1 hw3 a0 a1 b0 b1 HB HH hsW
 go_wp2_with fail
 obtain⟨w4,hw4⟩:∃w4,w4=((w1.alloc (.cells #[.bool kg,.string u] 70)).setCell ⟨w.heap.size+2,0,none⟩ (.bool kg)).setCell ⟨w.heap.size+2,1,none⟩ (.string u):=⟨_,rfl⟩
 rw[<-hw4]
 obtain⟨k0,k1⟩:w4.cell? ⟨w.heap.size+2,0,none⟩=some (.bool kg)/\w4.cell? ⟨w.heap.size+2,1,none⟩=some (.string u):=by
  rw[hw4];exact Ey c0 c1
 refine bodyPost_ret (v:= .agg #[.bool kg,.string u]) (by simp[results,results94,go_sem,k0,k1]) rfl ?_
 refine⟨rfl,?_⟩
 rw[hw4]
 exact Below.store2 (HB1.out.alloc ω _) ω _ _
theorem oT (x y:Int) (w:World) (hx:Fp x) (hy:Fp y):Calls Tryz.prog 98 #[Ak x,Ak y] w λe w'=>e= .returned (Ak (Nat.gcd x.natAbs y.natAbs:Int))/\Below w.heap.size w w':=by
 obtain⟨z,hz⟩:∃z,z=(Nat.gcd x.natAbs y.natAbs:Int):=⟨_,rfl⟩
 skip
 have HOP:Hid (∀wa,Calls Tryz.prog 126 #[Ak x,Ak y] wa λe w'=>e= .returned (.tuple #[Ak (Nat.gcd x.natAbs y.natAbs:Int),.int .i64 0])/\Below wa.heap.size wa w'):=λwa=>by
  have:=Acv x y wa hx hy
  skip
  exact this
 rw[<-hz] at HOP ⊢
 clear hx hy hz
 unfold Ak at*
 obtain⟨ng,hng⟩:∃ng,ng=decide (x<0):=⟨_,rfl⟩
 obtain⟨s,hs⟩:∃s,s=Dx x.natAbs:=⟨_,rfl⟩
 obtain⟨mg,hmg⟩:∃mg,mg=decide (y<0):=⟨_,rfl⟩
 obtain⟨t,ht⟩:∃t,t=Dx y.natAbs:=⟨_,rfl⟩
 obtain⟨kg,hkg⟩:∃kg,kg=decide (z<0):=⟨_,rfl⟩
 obtain⟨u,hu⟩:∃u,u=Dx z.natAbs:=⟨_,rfl⟩
 rw[<-hng,<-hs,<-hmg,<-ht,<-hkg,<-hu] at HOP
 rw[<-hng,<-hs,<-hmg,<-ht,<-hkg,<-hu]
 clear hng hs hmg ht hkg hu
 obtain⟨W,hW⟩:∃W,W=((w.alloc (.cells #[.bool ng,.string s] 70)).alloc (.cells #[.bool mg,.string t] 70)).alloc (.cells #[.bool false,.string ⟨#[]⟩] 70):=⟨_,rfl⟩
 have h3:=Hw w (.cells #[.bool ng,.string s] 70) (.cells #[.bool mg,.string t] 70) (.cells #[.bool false,.string ⟨#[]⟩] 70)
 rw[<-hW] at h3
 have hsW:W.heap.size=w.heap.size+3:=by rw[hW];simp
 have HB:Hid (Below w.heap.size w W):=by unfold Hid;rw[hW];exact(((Below.refl _ _).alloc (Nat.le_refl _) _).alloc (by simp) _).alloc (by simp;omega) _
 obtain⟨a0,a1⟩:=Aw h3.1
 obtain⟨b0,b1⟩:=Aw h3.2.1
 have HH:=Lib.hid h3.2.2
 clear h3
 go_enter func98,ntmps98
 go_upto_region 1 with fail
 rw[<-hW]
 clear hW
 go_wp2_with fail
 refine(HOP.out _).mono ?_
 rintro e w1 ⟨rfl,hb1⟩
 have HB1:Hid (Below w.heap.size w w1):=HB.out.trans (hb1.mono HB.out.size)
 have hs1:w.heap.size+3<=w1.heap.size:=by have:=hb1.size;omega
 have hw3:(w1.alloc (.cells #[.bool kg,.string u] 70)).heap[w.heap.size+2]?=some (.cells #[.bool false,.string ⟨#[]⟩] 70 (0,0)):=(Below.heap_alloc _ _ _ ω).trans ((hb1.block _ ω).trans HH.out)
 obtain⟨c0,c1⟩:=Aw hw3
 have f0:=Dv hw3 0
 have f1:=Dv hw3 1
 clear hb1 hw3 a0 a1 b0 b1 HB HH hsW
 go_wp2_with fail
 obtain⟨w4,hw4⟩:∃w4,w4=((w1.alloc (.cells #[.bool kg,.string u] 70)).setCell ⟨w.heap.size+2,0,none⟩ (.bool kg)).setCell ⟨w.heap.size+2,1,none⟩ (.string u):=⟨_,rfl⟩
 rw[<-hw4]
 obtain⟨k0,k1⟩:w4.cell? ⟨w.heap.size+2,0,none⟩=some (.bool kg)/\w4.cell? ⟨w.heap.size+2,1,none⟩=some (.string u):=by
  rw[hw4];exact Ey c0 c1
 refine bodyPost_ret (v:= .agg #[.bool kg,.string u]) (by simp[results,results98,go_sem,k0,k1]) rfl ?_
 refine⟨rfl,?_⟩
 rw[hw4]
 exact Below.store2 (HB1.out.alloc ω _) ω _ _
theorem Acb (x y:Int) (w:World) (hx:Fp x) (hy:Fp y) (h0:y≠0):Calls Tryz.prog 69 #[Ak x,Ak y] w λe w'=>e= .returned (Ak (x/y))/\Below w.heap.size w w':=by
 obtain⟨z,hz⟩:∃z,z=x/y:=⟨_,rfl⟩
 obtain⟨rg,rs,hVR⟩:∃rg rs,Ak (x%y)= .agg #[.bool rg,.string rs]:=⟨_,_,rfl⟩
 have HOP:Hid (∀wa,Calls Tryz.prog 101 #[Ak x,Ak y] wa λe w'=>e= .returned (.tuple #[Ak (x/y),.agg #[.bool rg,.string rs],.int .i64 0])/\Below wa.heap.size wa w'):=λwa=>by
  have:=Acx x y wa hx hy h0
  unfold iK at this
  rw[hVR] at this
  exact this
 rw[<-hz] at HOP ⊢
 clear hx hy h0 hVR hz
 unfold Ak at*
 obtain⟨ng,hng⟩:∃ng,ng=decide (x<0):=⟨_,rfl⟩
 obtain⟨s,hs⟩:∃s,s=Dx x.natAbs:=⟨_,rfl⟩
 obtain⟨mg,hmg⟩:∃mg,mg=decide (y<0):=⟨_,rfl⟩
 obtain⟨t,ht⟩:∃t,t=Dx y.natAbs:=⟨_,rfl⟩
 obtain⟨kg,hkg⟩:∃kg,kg=decide (z<0):=⟨_,rfl⟩
 obtain⟨u,hu⟩:∃u,u=Dx z.natAbs:=⟨_,rfl⟩
 rw[<-hng,<-hs,<-hmg,<-ht,<-hkg,<-hu] at HOP
 rw[<-hng,<-hs,<-hmg,<-ht,<-hkg,<-hu]
 clear hng hs hmg ht hkg hu
 obtain⟨W,hW⟩:∃W,W=((w.alloc (.cells #[.bool ng,.string s] 70)).alloc (.cells #[.bool mg,.string t] 70)).alloc (.cells #[.bool false,.string ⟨#[]⟩] 70):=⟨_,rfl⟩
 have h3:=Hw w (.cells #[.bool ng,.string s] 70) (.cells #[.bool mg,.string t] 70) (.cells #[.bool false,.string ⟨#[]⟩] 70)
 rw[<-hW] at h3
 have hsW:W.heap.size=w.heap.size+3:=by rw[hW];simp
 have HB:Hid (Below w.heap.size w W):=by unfold Hid;rw[hW];exact(((Below.refl _ _).alloc (Nat.le_refl _) _).alloc (by simp) _).alloc (by simp;omega) _
 obtain⟨a0,a1⟩:=Aw h3.1
 obtain⟨b0,b1⟩:=Aw h3.2.1
 have HH:=Lib.hid h3.2.2
 clear h3
 go_enter func69,ntmps69
 go_upto_region 1 with fail
 rw[<-hW]
 clear hW
 go_wp2_with fail
 refine(HOP.out _).mono ?_
 rintro e w1 ⟨rfl,hb1⟩
 have HB1:Hid (Below w.heap.size w w1):=HB.out.trans (hb1.mono HB.out.size)
 have hs1:w.heap.size+3<=w1.heap.size:=by have:=hb1.size;omega
 have hw3:((w1.alloc (.cells #[.bool kg,.string u] 70)).alloc (.cells #[.bool rg,.string rs] 70)).heap[w.heap.size+2]?=some (.cells #[.bool false,.string ⟨#[]⟩] 70 (0,0)):=(Below.heap_alloc _ _ _ (by simp;omega)).trans ((Below.heap_alloc _ _ _ ω).trans ((hb1.block _ ω).trans HH.out))
 obtain⟨c0,c1⟩:=Aw hw3
 have f0:=Dv hw3 0
 have f1:=Dv hw3 1
 clear hb1 hw3 a0 a1 b0 b1 HB HH hsW
 go_wp2_with fail
 obtain⟨w4,hw4⟩:∃w4,w4=(((w1.alloc (.cells #[.bool kg,.string u] 70)).alloc (.cells #[.bool rg,.string rs] 70)).setCell ⟨w.heap.size+2,0,none⟩ (.bool kg)).setCell ⟨w.heap.size+2,1,none⟩ (.string u):=⟨_,rfl⟩
 rw[<-hw4]
 obtain⟨k0,k1⟩:w4.cell? ⟨w.heap.size+2,0,none⟩=some (.bool kg)/\w4.cell? ⟨w.heap.size+2,1,none⟩=some (.string u):=by
  rw[hw4];exact Ey c0 c1
 refine bodyPost_ret (v:= .agg #[.bool kg,.string u]) (by simp[results,results69,go_sem,k0,k1]) rfl ?_
 refine⟨rfl,?_⟩
 rw[hw4]
 exact Below.store2 ((HB1.out.alloc ω _).alloc (by simp;omega) _) ω _ _
end Go.Proofs.YtldnjomacnjhnaaGreat
namespace Go.Proofs.YtldnjomacnjhnaaGreat
open Go.Proofs.Tryz
open Go.RowKit
def Le (w:World) (b:Nat) (z:Int):Prop:=w.heap[b]?=some (.cells #[.bool (decide (z<0)),.string (Dx z.natAbs)] 70 (0,0))
theorem Le.cells {w:World} {b:Nat} {z:Int} (h:Le w b z):w.cell? ⟨b,0,none⟩=some (.bool (decide (z<0)))/\w.cell? ⟨b,1,none⟩=some (.string (Dx z.natAbs)):=Aw h
theorem Le.lt {w:World} {b:Nat} {z:Int} (h:Le w b z):b<w.heap.size:=(Array.getElem?_eq_some_iff.1 h).1
theorem Le.up {w w':World} {b B:Nat} {z:Int} (h:Le w b z) (hb:Below B w w') (hl:b<B):Le w' b z:=(hb.block b hl).trans h
theorem Le.store {w:World} {b:Nat} {z:Int} (h:Le w b z) (y:Int):Le ((w.setCell ⟨b,0,none⟩ (.bool (decide (y<0)))).setCell ⟨b,1,none⟩ (.string (Dx y.natAbs))) b y:=Pc h _ _
theorem Le.new (w:World) (z:Int):Le (w.alloc (.cells #[.bool (decide (z<0)),.string (Dx z.natAbs)] 70)) w.heap.size z:=heap_alloc_new w _
structure Ae1 (w:World) (n:Int) (bo:Nat) (i:Nat) (wr:World):Prop where
 out:Le wr bo (n^i)
 res:wr.heap[w.heap.size]?=some (.cells #[.bool false,.string ⟨#[]⟩] 70 (0,0))
 below:Below w.heap.size w wr
theorem yP (n:Int) (k:Nat) (w:World) (h0: -9223372036854775808<=n) (h1:n<=9223372036854775807) (hk:k<=1000) (hf:∀j,j<=k->Fp (n^j)):
  Calls Tryz.prog 96 #[.int .i64 n,.int .i64 (k:Int)] w λe w'=>e= .returned (Ak (n^k))/\Below w.heap.size w w':=by
 have HOF:=Lib.hid (λw=>Ld n w h0 h1)
 have HO1:=Lib.hid (λw=>Ld 1 w δ δ)
 have HF:=Lib.hid hf
 have hf1:Fp n:=Jp h0 h1
 have HF1:=Lib.hid hf1
 clear h0 h1 hf hf1
 obtain⟨W,hW⟩:∃W,W=w.alloc (.cells #[.bool false,.string ⟨#[]⟩] 70):=⟨_,rfl⟩
 have hh:W.heap[w.heap.size]?=some (.cells #[.bool false,.string ⟨#[]⟩] 70 (0,0)):=by rw[hW];exact heap_alloc_new w _
 have hsW:W.heap.size=w.heap.size+1:=by rw[hW];simp
 have HB:Hid (Below w.heap.size w W):=by unfold Hid;rw[hW];exact(Below.refl _ _).alloc (Nat.le_refl _) _
 have HH:=Lib.hid hh
 clear hh
 have HW1:Hid (Ak 1= .agg #[.bool (decide ((n^0)<0)),.string (Dx (n^0).natAbs)]):=by unfold Hid Ak;rw[Int.pow_zero]
 go_enter func96,ntmps96
 go_upto_region 1 with fail
 rw[<-hW]
 clear hW
 go_wp2_with fail
 refine(HO1.out _).mono ?_
 rintro e w1 ⟨rfl,hb1⟩
 have HB1:Hid (Below w.heap.size w w1):=HB.out.trans (hb1.mono HB.out.size)
 have hs1:w.heap.size+1<=w1.heap.size:=by have:=hb1.size;omega
 have hr1:=(hb1.block w.heap.size ω).trans HH.out
 rw[HW1.out]
 obtain⟨V,hV⟩:∃V,V=w1.alloc (.cells #[.bool (decide ((n^0)<0)),.string (Dx (n^0).natAbs)] 70):=⟨_,rfl⟩
 have HJ0:Hid (Ae1 w n w1.heap.size 0 V):=⟨by rw[hV];exact Le.new w1 _,by rw[hV];exact(Below.heap_alloc _ _ _ ω).trans hr1,by rw[hV];exact HB1.out.alloc ω _⟩
 obtain⟨bo,hbo⟩:∃bo,bo=w1.heap.size:=⟨_,rfl⟩
 rw[<-hbo] at HJ0
 have hbw:w.heap.size<bo:=by omega
 obtain⟨g0,hg0⟩:∃g,g=decide ((n^0)<0):=⟨_,rfl⟩
 obtain⟨u0,hu0⟩:∃g,g=Dx (n^0).natAbs:=⟨_,rfl⟩
 rw[<-hg0,<-hu0] at hV ⊢
 clear hb1 hr1 HB HH HB1 HO1 HW1 hg0 hu0
 go_upto_region 2 with fail
 rw[<-hV,<-hbo]
 clear hV hbo hs1
 go_wp2_with fail
 go_loopw [8] (λiv wr=>∃i:Nat,i<=k/\iv= .int .i64 (i:Int)/\Hid (Ae1 w n bo i wr)) (λiv _=>k-(intOf iv).toNat)
 case atStart=>exact⟨0,Nat.zero_le _,rfl,HJ0⟩
 case round=>
  obtain⟨i,hi,rfl,HJ⟩:=hrel
  clear HJ0
  by_cases hik:i=k
  ·
   subst hik
   obtain⟨p0,p1⟩:=HJ.out.out.cells
   obtain⟨c0,c1⟩:=Aw HJ.out.res
   have f0:=Dv HJ.out.res 0
   have f1:=Dv HJ.out.res 1
   obtain⟨pg,hpg⟩:∃g,g=decide ((n^i)<0):=⟨_,rfl⟩
   obtain⟨ps,hps⟩:∃g,g=Dx (n^i).natAbs:=⟨_,rfl⟩
   have HPV:Hid (Ak (n^i)= .agg #[.bool pg,.string ps]):=by unfold Hid Ak;rw[hpg,hps]
   rw[<-hpg] at p0
   rw[<-hps] at p1
   clear hpg hps
   go_wp2_with fail
   obtain⟨w4,hw4⟩:∃w4,w4=(wr.setCell ⟨w.heap.size,0,none⟩ (.bool pg)).setCell ⟨w.heap.size,1,none⟩ (.string ps):=⟨_,rfl⟩
   rw[<-hw4]
   obtain⟨k0,k1⟩:w4.cell? ⟨w.heap.size,0,none⟩=some (.bool pg)/\w4.cell? ⟨w.heap.size,1,none⟩=some (.string ps):=by
    rw[hw4];exact Ey c0 c1
   refine bodyPost_ret (v:= .agg #[.bool pg,.string ps]) (by simp[results,results96,go_sem,k0,k1]) rfl ?_
   refine⟨by rw[HPV.out],?_⟩
   rw[hw4]
   exact Below.store2 HJ.out.below (Nat.le_refl _) _ _
  ·
   have hik2:i<k:=by omega
   have hii:(i:Int)<(k:Int):=by omega
   have HNX:Hid (∀w2,Below wr.heap.size wr w2->Ae1 w n bo (i+1) ((w2.setCell ⟨bo,0,none⟩ (.bool (decide (n^(i+1)<0)))).setCell ⟨bo,1,none⟩ (.string (Dx (n^(i+1)).natAbs)))):=λw2 hb=>
    ⟨(HJ.out.out.up hb HJ.out.out.lt).store _,(Fy _ _ ω).trans ((hb.block _ (by have:=HJ.out.out.lt;omega)).trans HJ.out.res),Below.store2 (HJ.out.below.trans (hb.mono HJ.out.below.size)) ω _ _⟩
   have HML:Hid (∀wa,Below wr.heap.size wr wa->Calls Tryz.prog 94 #[Ak (n^i),Ak n] wa λe w'=>∃v,e= .returned v/\Below wr.heap.size wr w'/\Below wa.heap.size wa w'/\is (Ak (n^(i+1))) v w'):=λwa hC=>by
    refine(Wn (n^i) n wa (HF.out i hi) HF1.out (by rw[<-Int.pow_succ];exact HF.out _ hik2)).mono ?_
    rintro e w' ⟨rfl,hb⟩
    exact⟨_,rfl,hC.trans (hb.mono hC.size),hb,by rw[Int.pow_succ];exact rfl⟩
   have HO2:Hid (∀wa,Below wr.heap.size wr wa->Calls Tryz.prog 95 #[.int .i64 n] wa λe w'=>∃v,e= .returned v/\Below wr.heap.size wr w'/\Below wa.heap.size wa w'/\is (Ak n) v w'):=λwa hC=>by
    refine(HOF.out wa).mono ?_
    rintro e w' ⟨rfl,hb⟩
    exact⟨_,rfl,hC.trans (hb.mono hC.size),hb,rfl⟩
   have CB:Hid (∀wa,Below wr.heap.size wr wa->wa.heap[bo]?=some (.cells #[.bool (decide ((n^i)<0)),.string (Dx (n^i).natAbs)] 70 (0,0))):=λwa hb=>HJ.out.out.up hb HJ.out.out.lt
   unfold Ak at HML HO2
   obtain⟨pg,hpg⟩:∃g,g=decide ((n^i)<0):=⟨_,rfl⟩
   obtain⟨ps,hps⟩:∃g,g=Dx (n^i).natAbs:=⟨_,rfl⟩
   obtain⟨ng,hng⟩:∃g,g=decide (n<0):=⟨_,rfl⟩
   obtain⟨ns,hns⟩:∃g,g=Dx n.natAbs:=⟨_,rfl⟩
   obtain⟨qg,hqg⟩:∃g,g=decide ((n^(i+1))<0):=⟨_,rfl⟩
   obtain⟨qs,hqs⟩:∃g,g=Dx (n^(i+1)).natAbs:=⟨_,rfl⟩
   rw[<-hpg,<-hps] at CB HML
   rw[<-hng,<-hns] at HML HO2
   rw[<-hqg,<-hqs] at HML HNX
   clear hpg hps hng hns hqg hqs
   go_wp2_with fail
   refine Dc 4 16 (λw'=>Below wr.heap.size wr w') [is (.agg #[.bool pg,.string ps]),is (.int .i64 n),is (.agg #[.bool ng,.string ns]),is (.agg #[.bool qg,.string qs])] κ κ rfl δ ?hst ?h0 ?hop ?htail
   case hst=>
    simp only[List.mem_cons,List.mem_nil_iff,or_false,forall_eq_or_imp,forall_eq]
    exact⟨Ab _,Ab _,Ab _,Ab _⟩
   case h0=>exact(Below.refl _ _).drew
   case hop=>
    refine⟨?_,?_,?_,?_,trivial⟩
    · exact Bb 70 (.tmp 5) (.pointer (some ⟨bo,0,none⟩)) (.agg #[.bool pg,.string ps]) rfl κ (λwa hC=>Dq [.bool pg,.string ps] wa κ κ (Lm (CB.out wa hC))) rfl
    · exact Cy (.tmp 0) (is (.int .i64 n)) rfl κ (λ_ _ _ h=>h)
    · exact Cd 95 [.tmp 11] _ [.int .i64 n] rfl (λ_ _=>by kernel_rfl) ⟨κ,trivial⟩ HO2.out
    · exact Cd 94 [.tmp 10,.tmp 12] _ [.agg #[.bool pg,.string ps],.agg #[.bool ng,.string ns]] rfl (λ_ _=>by kernel_rfl) ⟨κ,κ,trivial⟩ HML.out
   case htail=>
   intro τ w2 hC hR
   have r3:τ 3= .agg #[.bool qg,.string qs]:=hR 3 δ
   simp only[Bl,List.getElem?_toArray,List.getElem?_cons_succ,List.getElem?_cons_zero,Option.bind_some,Act.put,List.setIfInBounds_toArray,List.set_cons_succ,List.set_cons_zero,List.drop_succ_cons,List.drop_zero,r3]
   clear hR r3
   have HN2:=Lib.hid (HNX.out w2 hC)
   have h1:=CB.out w2 hC
   obtain⟨c0,c1⟩:=Aw h1
   have f0:=Dv h1 0
   have f1:=Dv h1 1
   clear hC h1 CB
   go_wp2_with fail
   exact⟨⟨i+1,ω,rfl,HN2⟩,by simp only[intOf];omega⟩
end Go.Proofs.YtldnjomacnjhnaaGreat