/- Part 16 of the proof of IB.row_holds: no condition beyond the row's. -/
import Derived.Test.YtbggmndaahbojaaGreatIb15
import Derived.Laws.MakeOwn
set_option maxRecDepth 100000
set_option maxHeartbeats 40000000
namespace Go.Proofs.YtbggmndaahbojaaGreat
open Go.RowKit
variable {P:Program} {R:Option Nat} {B:Nat} {D0:Ap} {o:Oper} {ev:Operand->AV} {pre:Nat->Option Ar} {s:St} {Q:Exit->St->Prop}
theorem Zh {E:Ap} {id cp:Nat} {arr:Array Value} {t:TypeId} (e n:Nat) (f:Nat->AV) (hle:E.le (E.more id cp (.cells arr t))) (hn:arr.size=cp*e) (hc:n<=cp) (hm:cp<=maxLen) (hr:∀i j,i<n->j<e->VR E ((f i).cell j) (arr.getD (i*e+j) undef)):
  BR (E.more id cp (.cells arr t)) (.vec t e n f) E.w.heap.size cp/\VR (E.more id cp (.cells arr t)) (.osl id e n) (.slice (some ⟨E.w.heap.size,0,none⟩) n cp):=by
 refine⟨.vec _ _ _ _ _ _ arr (heap_alloc_new E.w _) hn hc hm λi j hi hj=>(hr i j hi hj).up hle,?_⟩
 have h1:(E.more id cp (.cells arr t)).π id=E.w.heap.size:=by show (if id=id then _ else _)=_;rw[if_pos rfl]
 have h2:(E.more id cp (.cells arr t)).cap id=cp:=by show (if id=id then _ else _)=_;rw[if_pos rfl]
 have:=VR.osl (E.more id cp (.cells arr t)) id e n (.inr rfl)
 rw[h1,h2] at this
 exact this
theorem sT {z:Array Value} {m i:Nat} (hi:i<m) (hz:0<z.size):(madeCells z m).getD i undef=z.toList.getD (i%z.size) undef:=by
 have hm:i%z.size<z.size:=Nat.mod_lt _ hz
 simp[madeCells,Array.getD_eq_getD_getElem?,hi,getElem!_def,hm]
theorem Dj (T:TypeId) (len:Nat) (ps:Array (Nat×Operand)) (ho:o.op= .buildSlice T len ps) {el:TypeId} (hu:P.underlying T=some (.slice el)) (e:Nat) (hsz:∀w,(sizeOf el).run P w= .ok e w) (z:Value) (hz:∀w,(zeroValue el).run P w= .ok z w) (hze:z.cells.size=e) (he:0<e) (hlen:0<len) (hbig:len*e<=16777216)
  (id:Nat) (out:List AV) (hf:Rg (λi=>some (i*e,e)) ((List.range (len*e)).map λi=> .lit (z.cells.toList.getD (i%e) undef)) (ps.toList.map λp=>(p.1,ev p.2))=some out) (f:Nat->AV) (hfo:(List.range (len*e)).map (λq=>(f (q/e)).cell (q%e))=out):Cw P B D0 o ev pre (.osl id e len) (.new id (.vec el e len f)):=by
 refine Tr id _ _ λE a c hh hid hv=>?_
 obtain⟨arr,h1,h2⟩:=Wr (E:=E) (λi=>some (i*e,e)) _ (ps.toList.map λp=>(p.1,a.eval p.2)) _ (madeCells z.cells (len*e)) out ⟨by simp[madeCells],λi=>by
  by_cases hi:i<len*e
  have e1:((List.range (len*e)).map λi=>AV.lit (z.cells.toList.getD (i%e) undef)).getD i .top= .lit (z.cells.toList.getD (i%e) undef):=by simp[hi]
  rw[e1,sT hi ω,hze];exact .lit _ _
  have e1:((List.range (len*e)).map λi=>AV.lit (z.cells.toList.getD (i%e) undef)).getD i .top= .top:=by rw[Γ,List.getElem?_eq_none (by simpa using hi)];rfl
  rw[e1];exact .top _ _⟩ (by simp) (λi p q hp hq=>by
  simp only[List.getElem?_map,Option.map_eq_some_iff] at hp hq
  obtain⟨x,hx,rfl⟩:=hp
  obtain⟨y,hy,rfl⟩:=hq
  rw[hx] at hy
  cases hy
  exact⟨rfl,hv _ (by simp only[ho,Op.operands];exact List.mem_toArray.2 (List.mem_map.2 ⟨x,List.mem_of_getElem? hx,rfl⟩))⟩) hf
 have hasz:arr.size=len*e:=by rw[h2.1,<-hfo];simp
 have hmx:len<=maxLen:=by
  have:len*1<=len*e:=Nat.mul_le_mul_left len he
  have h3:(16777216:Nat)<=maxLen:=by decide
  omega
 obtain⟨r1,r2⟩:=Zh (t:=el) e len f (hh.more hid len (.cells arr el)).1 hasz ζ hmx λi j hi hj=>by
  have h3:=h2.2 (i*e+j)
  rw[<-hfo] at h3
  have hlt:i*e+j<len*e:=by
   have:=Nat.mul_le_mul_right e (show i+1<=len from hi)
   rw[Nat.succ_mul] at this;omega
  have e1:((List.range (len*e)).map λq=>(f (q/e)).cell (q%e)).getD (i*e+j) .top=(f i).cell j:=by
   have d1:(i*e+j)/e=i:=by rw[Nat.mul_comm,Nat.mul_add_div he,Nat.div_eq_of_lt hj,Nat.add_zero]
   have d2:(i*e+j)%e=j:=by rw[Nat.mul_comm,Nat.mul_add_mod,Nat.mod_eq_of_lt hj]
   simp[hlt,d1,d2]
  rw[e1] at h3
  exact h3
 refine⟨_,len,.cells arr el,_,?_,rfl,r1,r2⟩
 have n1:¬len*e>16777216:=by omega
 have n2:¬len*e=0:=by
  have:1*1<=len*e:=Nat.mul_le_mul hlen he
  omega
 have hm:(Array.range (len*e)).map (z.cells[·%z.cells.size]!)=madeCells z.cells (len*e):=rfl
 simp only[execOp,ho,Instr.buildSlice,run_underlying hu,Sem.run_bind,Sem.run_pure,Result.andThen_ok,hsz,if_neg n1,if_neg n2,hz,hm]
 have e9:(Array.map (λx=>(x.1,a.eval x.2)) ps).toList=ps.toList.map λp=>(p.1,a.eval p.2):=by simp
 rw[e9,h1]
 rfl
theorem Jy (T:TypeId) (x y:Operand) (ho:o.op= .makeSlice T x y) {el:TypeId} (hu:P.underlying T=some (.slice el)) (e bytes:Nat) (z:Value) (hi:(P.info? el).map (λi=>(i.zero,i.size,i.bytes))=some (some z,e,bytes)) (hze:z.cells.size=e) (he:0<e) (k:Int) (n:Nat) (hk:k=(n:Int)) (hx:ev x= .int k) (hy:ev y= .int k) (hc:n*e<=16777216) (hbig:bytes*n<=281474976710656) (h63:n<=9223372036854775807)
  (id:Nat) (V:AV) (hV:V.cells=z.cells.toList.map .lit):Cw P B D0 o ev pre (.osl id e n) (.new id (.vec el e n λ_=>V)):=by
 subst hk
 refine Tr id _ _ λE a c hh hid hv=>?_
 have hx2:=hv x (by simp[ho,Op.operands])
 have hy2:=hv y (by simp[ho,Op.operands])
 rw[hx] at hx2
 rw[hy] at hy2
 have ex:=hx2.lit_inv
 have ey:=hy2.lit_inv
 obtain⟨i0,hi0,hz0,hz1,hz2⟩:=info_parts hi
 obtain⟨r1,r2⟩:=Zh (t:=el) (arr:=madeCells z.cells (n*e)) e n (λ_=>V) (hh.more hid n (.cells (madeCells z.cells (n*e)) el)).1 (by simp[madeCells]) ζ (by rw[show maxLen=9223372036854775807 from by decide];exact h63) λi j hi hj=>by
  have hlt:i*e+j<n*e:=by
   have:=Nat.mul_le_mul_right e (show i+1<=n from hi)
   rw[Nat.succ_mul] at this;omega
  have d2:(i*e+j)%z.cells.size=j:=by rw[hze,Nat.mul_comm,Nat.mul_add_mod,Nat.mod_eq_of_lt hj]
  have e1:V.cell j= .lit (z.cells.toList.getD j undef):=by
   have hm:j<z.cells.size:=by omega
   simp[AV.cell,hV,hm]
  rw[e1,sT hlt ω,d2];exact .lit _ _
 refine⟨_,n,.cells (madeCells z.cells (n*e)) el,_,?_,rfl,r1,r2⟩
 have hrun:=run_makeSlice E.w T el i0 z hu hi0 hz0 .i64 .i64 (n:Int) (n:Int) ω ω (by rw[hz1,Int.toNat_natCast];exact hc) (by rw[hz2,<-Int.natCast_mul];exact Int.ofNat_le.2 hbig) ω
 rw[hz1] at hrun
 simp only[Int.toNat_natCast] at hrun
 simp[execOp,ho,ex,ey,hrun]
theorem Ab5 {q m e:Nat} (h:q<m*e) (he:0<e):q/e<m/\q%e<e/\q/e*e+q%e=q:=by
 refine⟨(Nat.div_lt_iff_lt_mul he).2 h,Nat.mod_lt _ he,?_⟩
 rw[Nat.mul_comm];exact Nat.div_add_mod q e
structure Xt (E:Ap) (w:World) (e m:Nat) (g:Nat->AV) (v:Value) (news:List Value):Prop where
 src:∃(a:Addr) (c:Nat),v= .slice (some a) m c/\∀j u,news[j]?=some u->w.cell? (a.add j)=some u
 len:news.length=m*e
 vr:∀i j,i<m->j<e->VR E ((g i).cell j) (news.getD (i*e+j) undef)
theorem AfF {E:Ap} {e m:Nat} {g:Nat->AV} {v:Value} (he:0<e) (hm:0<m) (h:VR E (.sl e m g) v):∃news,Xt E E.w e m g v news:=by
 cases h with
 |sl0=>omega
 |sl _ _ _ _ b q c us hn hD hc hr=>
  refine⟨(List.range (m*e)).map λi=>us (i/e) (i%e),⟨⟨b,q,none⟩,c,rfl,λj u hu=>?_⟩,by simp,λi j hi hj=>?_⟩
  simp only[List.getElem?_map,Option.map_eq_some_iff] at hu
  obtain⟨x,hx,rfl⟩:=hu
  have hj:j<m*e:=by
   rcases Nat.lt_or_ge j (m*e) with h|h
   exact h
   rw[List.getElem?_eq_none (by simpa using h)] at hx;cases hx
  have:x=j:=by simpa [hj] using hx.symm
  subst this
  obtain⟨d1,d2,d3⟩:=Ab5 hj he
  rw[Ff]
  have:=hc _ _ d1 d2
  rw[Nat.add_assoc,d3] at this
  exact this
  have hlt:i*e+j<m*e:=by
   have:=Nat.mul_le_mul_right e (show i+1<=m from hi)
   rw[Nat.succ_mul] at this;omega
  have d1:(i*e+j)/e=i:=by rw[Nat.mul_comm,Nat.mul_add_div he,Nat.div_eq_of_lt hj,Nat.add_zero]
  have d2:(i*e+j)%e=j:=by rw[Nat.mul_comm,Nat.mul_add_mod,Nat.mod_eq_of_lt hj]
  have:((List.range (m*e)).map λi=>us (i/e) (i%e)).getD (i*e+j) undef=us i j:=by simp[hlt,d1,d2]
  rw[this]
  exact(hr i j hi hj).up E.fz_le
theorem AcG {E:Ap} {c:Nat->Option Ar} (hh:HR B D0 E c) {id e m:Nat} {t:TypeId} {g:Nat->AV} {v:Value} (h:VR E (.osl id e m) v) (hc:c id=some (.vec t e m g)):∃news,Xt E E.w e m g v news:=by
 obtain⟨arr,hb,hn,hcp,hr⟩:=hh.vec hc
 cases h with
 |osl _ _ _ _ hA=>
  refine⟨arr.toList.take (m*e),⟨⟨E.π id,0,none⟩,_,rfl,λj u hu=>?_⟩,by rw[List.length_take,Array.length_toList];omega,λi j hi hj=>?_⟩
  rw[Ff,Nat.zero_add]
  rw[List.getElem?_take] at hu
  by_cases hj:j<m*e
  rw[if_pos hj] at hu
  simp[World.cell?,hb]
  simpa using hu
  rw[if_neg hj] at hu;cases hu
  have hlt:i*e+j<m*e:=by
   have:=Nat.mul_le_mul_right e (show i+1<=m from hi)
   rw[Nat.succ_mul] at this;omega
  have:(arr.toList.take (m*e)).getD (i*e+j) undef=arr.getD (i*e+j) undef:=by
   simp[Array.getD_eq_getD_getElem?,hlt]
  rw[this]
  exact hr i j hi hj
theorem Xt.one1 {E:Ap} {w:World} {e m:Nat} {g:Nat->AV} {v:Value} {news:List Value} (h:Xt E w e m g v news) (he:0<e) (h1:∀i,i<m->∀j,j<e->((g i).cell j).one1=true):∀u∈news,u.oneCell'=true:=by
 intro u hu
 obtain⟨q,hq,rfl⟩:=List.getElem_of_mem hu
 obtain⟨d1,d2,d3⟩:=Ab5 (by rw[<-h.len];exact hq) he
 have:=h.vr _ _ d1 d2
 rw[d3] at this
 have e1:news.getD q undef=news[q]:=by simp[hq]
 rw[e1] at this
 exact this.one1 (h1 _ d1 _ d2)
theorem wV {E:Ap} {c:Nat->Option Ar} (hh:HR B D0 E c) {nid:Nat} (hnid:¬E.A nid) {v v':Value} {w':World} {e n:Nat} {t:TypeId} {xs:List Value} (hown:w'.ownsRow B t e v' n xs) (hn:0<n) (hg:E.w.grownBy w' v.ownBlock) (hb:v'.ownBlock=v.ownBlock\/v'.ownBlock=some E.w.heap.size) (dead:Nat->Bool)
  (hv:v.ownBlock=none\/∃id blk,v.ownBlock=some (E.π id)/\c id=some blk/\dead id=true) (F:Nat->AV) (hF:∀E':Ap,E.le E'->∀i j,i<n->j<e->VR E' ((F i).cell j) (xs.getD (i*e+j) undef)):
  ∃E':Ap,E'.w=w'/\E.le E'/\Below B E.w w'/\VR E' (.osl nid e n) v'/\HR B D0 E' (λid=>if nid=id then some (.vec t e n F) else if dead id then none else c id)/\∀id,E'.A id->E.A id\/id=nid:=by
 rcases hown.2 with⟨_,h0⟩|⟨g,cap,cur,rfl,hg1,hg2,hg3,hg4,hg5,hg6⟩
 omega
 have hxs:=hown.1
 have keep:∀b,b<E.w.heap.size->(∀id blk,c id=some blk->dead id=true->b≠E.π id)->w'.heap[b]?=E.w.heap[b]?:=λb hb1 hb2=>hg.block b hb1 (λe1=>by
  rcases hv with hv|⟨id,blk,hv,hc,hd⟩
  rw[hv] at e1;cases e1
  rw[hv] at e1
  exact hb2 id blk hc hd (Option.some.inj e1))
 have hgl:g<w'.heap.size:=(Ξ hg2).1
 have hbl:Below B E.w w':=⟨hg.os,hg.tape,hg.output,hg.size,λk hk=>keep k (by have:=hh.B;omega) λid blk hc _ e1=>by
  have:=(hh.live id blk hc).2.2.2
  omega⟩
 let E':Ap:={ π:=λi=>if i=nid then g else E.π i,cap:=λi=>if i=nid then cap else E.cap i,A:=λi=>E.A i\/i=nid,D:=E.D,w:=w' }
 have hπ:∀i,E.A i->E'.π i=E.π i:=λi hi=>by
  show (if i=nid then _ else _)=_
  rw[if_neg (λe1:i=nid=>hnid (e1▸hi))]
 have hcap:∀i,E.A i->E'.cap i=E.cap i:=λi hi=>by
  show (if i=nid then _ else _)=_
  rw[if_neg (λe1:i=nid=>hnid (e1▸hi))]
 have hπn:E'.π nid=g:=by show (if nid=nid then _ else _)=_;rw[if_pos rfl]
 have hcapn:E'.cap nid=cap:=by show (if nid=nid then _ else _)=_;rw[if_pos rfl]
 have hle:E.le E':=⟨λi hi=> .inl hi,hπ,λb hb1=>hb1,λb hb1=>keep b (hh.bnd b hb1) λid blk hc _ e1=>(hh.live id blk hc).2.2.1 (e1▸hb1),hcap⟩
 have gne:∀i x,c i=some x->dead i=false->E.π i≠g:=λi x hc hd e1=>by
  rcases hb with hb|hb
  rcases hv with hv|⟨id,blk,hv,hci,hdi⟩
  rw[hv] at hb;cases hb
  rw[hv] at hb
  have e2:g=E.π id:=Option.some.inj hb
  by_cases hid:i=id
  subst hid;rw[hd] at hdi;cases hdi
  exact hh.inj i id x blk hc hci hid (e1.trans e2)
  have e2:g=E.w.heap.size:=Option.some.inj hb
  have:=(hh.live i x hc).2.1.lt
  omega
 have gD:¬E.D g:=λhD=>by
  rcases hb with hb|hb
  rcases hv with hv|⟨id,blk,hv,hci,hdi⟩
  rw[hv] at hb;cases hb
  rw[hv] at hb
  have e2:g=E.π id:=Option.some.inj hb
  exact(hh.live id blk hci).2.2.1 (e2▸hD)
  have e2:g=E.w.heap.size:=Option.some.inj hb
  have:=hh.bnd g hD
  omega
 have hread:∀i,(if nid=i then some (Ar.vec t e n F) else if dead i then none else c i)=if nid=i then some (Ar.vec t e n F) else if dead i then none else c i:=λ_=>rfl
 refine⟨E',rfl,hle,hbl,?_,⟨λi x hx=>?_,λi j x y hx hy hne=>?_,λb hb1=>Nat.lt_of_lt_of_le (hh.bnd b hb1) hg.size,λi hi=>?_,hh.le0.trans hle,hh.new,Nat.le_trans hh.B hg.size⟩,λid h=>h⟩
 have:=VR.osl E' nid e n (.inr rfl)
 rw[hπn,hcapn] at this
 exact this
 by_cases e1:nid=i
 subst e1
 rw[if_pos rfl] at hx
 cases hx
 rw[hπn,hcapn]
 refine⟨.inr rfl,.vec _ _ _ _ _ _ cur hg2 hg5 hg3 hg4 λi j hi hj=>?_,gD,hg1⟩
 have hlt:i*e+j<n*e:=by
  have:=Nat.mul_le_mul_right e (show i+1<=n from hi)
  rw[Nat.succ_mul] at this;omega
 have e3:xs.getD (i*e+j) undef=cur.getD (i*e+j) undef:=by
  rw[<-hg6]
  simp[Array.getD_eq_getD_getElem?,hlt]
 rw[<-e3]
 exact hF E' hle i j hi hj
 rw[if_neg e1] at hx
 cases hd:dead i with
 |true=>rw[hd] at hx;cases hx
 |false=>
  rw[hd] at hx
  simp only[Bool.false_eq_true,if_false] at hx
  obtain⟨j1,j2,j3,j4⟩:=hh.live i x hx
  rw[hπ i j1,hcap i j1]
  refine⟨.inl j1,j2.up hle (keep _ j2.lt λid blk hc hdi=>?_),j3,j4⟩
  exact hh.inj i id x blk hx hc (λe2=>by subst e2;rw[hd] at hdi;cases hdi)
 have real:∀k z,nid≠k->(if nid=k then some (Ar.vec t e n F) else if dead k then none else c k)=some z->dead k=false/\c k=some z:=λk z e1 hz=>by
  rw[if_neg e1] at hz
  cases hd:dead k with
  |true=>rw[hd] at hz;cases hz
  |false=>rw[hd] at hz;exact⟨rfl,by simpa using hz⟩
 by_cases e1:nid=i
 subst e1
 obtain⟨d1,d2⟩:=real j y hne hy
 rw[hπn,hπ j (hh.live j y d2).1]
 exact λe2=>gne j y d2 d1 e2.symm
 obtain⟨d1,d2⟩:=real i x e1 hx
 by_cases e2:nid=j
 subst e2
 rw[hπn,hπ i (hh.live i x d2).1]
 exact gne i x d2 d1
 obtain⟨d3,d4⟩:=real j y e2 hy
 rw[hπ i (hh.live i x d2).1,hπ j (hh.live j y d4).1]
 exact hh.inj i j x y d2 d4 hne
 rcases hi with hi|hi
 rw[hπ i hi];exact Nat.lt_of_lt_of_le (hh.abd i hi) hg.size
 subst hi;rw[hπn];exact hgl
theorem Qh (x y:Operand) (t:TypeId) (ho:o.op= .call { callee:= .builtin .append,args:=#[x,y],argTypes:=#[t,t] }) {el:TypeId} (ht:P.underlying t=some (.slice el)) (e bytes:Nat) (z:Value) (hi:(P.info? el).map (λi=>(i.zero,i.size,i.bytes))=some (some z,e,bytes)) (hze:z.cells.size=e) (he:0<e)
  (n m:Nat) (hm:0<m) (f g F:Nat->AV) (nid:Nat) (hF1:∀i,i<n->F i=f i) (hF2:∀i,i<m->F (n+i)=g i) (hone:∀i,i<m->∀j,j<e->((g i).cell j).one1=true) (h63:n+m<=maxLen) (hbytes:(n+m)*bytes<=140737488355328) (ef:Ba) (dead:Nat->Bool)
  (hon:∀i c,ef.on i c=if nid=i then some (.vec el e (n+m) F) else if dead i then none else c) (hnews:∀i,ef.news i=true↔i=nid)
  (hbase:(n=0/\ev x= .lit (.slice none 0 0))\/∃id,ev x= .osl id e n/\pre id=some (.vec el e n f)/\dead id=true/\ef.touch id=true)
  (hnew:ev y= .sl e m g\/∃id2 t2,ev y= .osl id2 e m/\pre id2=some (.vec t2 e m g)/\ef.touch id2=true):Cw P B D0 o ev pre (.osl nid e (n+m)) ef:=by
 refine⟨?_⟩
 intro E a c K Q _ hh htch hn hv k
 obtain⟨i0,hi0,hz0,hz1,hz2⟩:=info_parts hi
 have hx:=hv x (by simp[ho,Op.operands,Call.operands])
 have hy:=hv y (by simp[ho,Op.operands,Call.operands])
 have hnid:¬E.A nid:=hn nid ((hnews nid).2 rfl)
 obtain⟨news,hnw⟩:∃news,Xt E E.w e m g (a.eval y) news:=by
  rcases hnew with h|⟨id2,t2,h,h2,h3⟩
  rw[h] at hy;exact AfF he hm hy
  rw[h] at hy;exact AcG hh hy ((htch id2 h3).trans h2)
 obtain⟨⟨ad,cp,hy2,hsrc⟩,hlen,hnv⟩:=id hnw
 have hbs:∃xs,E.w.ownsRow B el e (a.eval x) n xs/\(∀i j,i<n->j<e->VR E ((f i).cell j) (xs.getD (i*e+j) undef))/\((a.eval x).ownBlock=none\/∃id blk,(a.eval x).ownBlock=some (E.π id)/\c id=some blk/\dead id=true):=by
  rcases hbase with⟨rfl,h⟩|⟨id,h,h2,h3,h4⟩
  rw[h] at hx
  have hx:=hx.lit_inv
  refine⟨[],⟨by simp,.inl ⟨hx,rfl⟩⟩,λi j hi=>absurd hi (Nat.not_lt_zero i),.inl (by rw[hx];rfl)⟩
  rw[h] at hx
  have hc:=(htch id h4).trans h2
  obtain⟨arr,hb,hna,hcp,hr⟩:=hh.vec hc
  obtain⟨j1,j2,j3,j4⟩:=hh.live id _ hc
  generalize hzz:a.eval x=zz at hx
  cases hx with
  |osl _ _ _ _ hA=>
   refine⟨arr.toList.take (n*e),⟨by rw[List.length_take,Array.length_toList];omega,.inr ⟨E.π id,E.cap id,arr,rfl,j4,hb,hcp.2.1,hcp.2.2,hcp.1,rfl⟩⟩,λi j hi hj=>?_,.inr ⟨id,_,rfl,hc,h3⟩⟩
   have hlt:i*e+j<n*e:=by
    have:=Nat.mul_le_mul_right e (show i+1<=n from hi)
    rw[Nat.succ_mul] at this;omega
   have:(arr.toList.take (n*e)).getD (i*e+j) undef=arr.getD (i*e+j) undef:=by
    simp[Array.getD_eq_getD_getElem?,hlt]
   rw[this]
   exact hr i j hi hj
 obtain⟨xs,hown,hxv,hvb⟩:=hbs
 obtain⟨v',w',hrun,hown',hg,_,hb⟩:=run_append_own_at (P:=P) E.w B t o.type el i0 z e bytes ht hi0 hz0 hz1 hz2 hze he (a.eval x) n xs hown ad m cp news hlen hsrc (hnw.one1 he hone) h63 hbytes hh.B
 obtain⟨E',rfl,hle,hbl,hV,hH,hA⟩:=wV hh hnid hown' ω hg hb dead hvb F λE' hE' i j hi hj=>by
  have hxl:=hown.1
  by_cases hin:i<n
  rw[hF1 i hin]
  have hlt:i*e+j<n*e:=by
   have:=Nat.mul_le_mul_right e (show i+1<=n from hin)
   rw[Nat.succ_mul] at this;omega
  have:(xs++news).getD (i*e+j) undef=xs.getD (i*e+j) undef:=by simp[List.getElem?_append,hxl,hlt]
  rw[this]
  exact(hxv i j hin hj).up hE'
  obtain⟨q,rfl⟩:∃q,i=n+q:=⟨i-n,ω⟩
  rw[hF2 q ω]
  have e1:(n+q)*e+j=xs.length+(q*e+j):=by rw[hxl,Nat.add_mul];omega
  have:(xs++news).getD ((n+q)*e+j) undef=news.getD (q*e+j) undef:=by
   rw[e1,Γ,List.getElem?_append_right ω,Nat.add_sub_cancel_left,<-Γ]
  rw[this]
  exact(hnv q j ω hj).up hE'
 unfold Oper.wp
 have hexec:(execOp a.eval o).run P E.w= .ok (.value v') E'.w:=by
  simp[execOp,ho,resolve,invoke,builtin,hy2,hrun]
 rw[hexec]
 refine k v' E' hle hbl hV ?_ λid hid=>?_
 have:(λid=>ef.on id (c id))=λid=>if nid=id then some (.vec el e (n+m) F) else if dead id then none else c id:=funext λid=>hon id (c id)
 rw[this];exact hH
 rcases hA id hid with h|h
 exact .inl h
 exact .inr ((hnews id).2 h)
section
variable (x y:Operand) (t:TypeId) (ho:o.op= .call { callee:= .builtin .append,args:=#[x,y],argTypes:=#[t,t] }) {el:TypeId} (ht:P.underlying t=some (.slice el)) (e bytes:Nat) (z:Value) (hi:(P.info? el).map (λi=>(i.zero,i.size,i.bytes))=some (some z,e,bytes)) (hze:z.cells.size=e) (he:0<e)
    (n m:Nat) (hm:0<m) (f g F:Nat->AV) (nid:Nat) (h63:n+m<=maxLen) (hbytes:(n+m)*bytes<=140737488355328)
include ho ht hi hze he hm hbytes
omit hbytes in
theorem Ls (hF:∀i,i<m->F i=g i) (hone:∀i,i<m->∀j,j<e->((g i).cell j).one1=true) (h63:m<=maxLen) (hb:m*bytes<=140737488355328) (hx:ev x= .lit (.slice none 0 0)) (id2:Nat) (t2:TypeId) (hy:ev y= .osl id2 e m) (hp:pre id2=some (.vec t2 e m g)):Cw P B D0 o ev pre (.osl nid e m) (.newr id2 nid (.vec el e m F)):=by
 have:=Qh (B:=B) (D0:=D0) (pre:=pre) x y t ho ht e bytes z hi hze he 0 m hm g g F nid (λi hi=>absurd hi (Nat.not_lt_zero i)) (λi hi=>by rw[Nat.zero_add];exact hF i hi) hone ω (by rw[Nat.zero_add];exact hb) (.newr id2 nid (.vec el e m F)) (λ_=>false) (λi c=>by simp[Ba.on]) (λi=>by simp[Ba.news];exact eq_comm) (.inl ⟨rfl,hx⟩) (.inr ⟨id2,t2,hy,hp,by simp[Ba.touch]⟩)
 rwa [Nat.zero_add] at this
theorem Rh (h63:n+m<=maxLen) (hF1:∀i,i<n->F i=f i) (hF2:∀i,i<m->F (n+i)=g i) (hone:∀i,i<m->∀j,j<e->((g i).cell j).one1=true) (id:Nat) (hx:ev x= .osl id e n) (hp:pre id=some (.vec el e n f)) (hy:ev y= .sl e m g):Cw P B D0 o ev pre (.osl nid e (n+m)) (.grow id nid (.vec el e (n+m) F)):=
 Qh x y t ho ht e bytes z hi hze he n m hm f g F nid hF1 hF2 hone h63 hbytes (.grow id nid (.vec el e (n+m) F)) (λi=>id==i) (λi c=>by simp[Ba.on]) (λi=>by simp[Ba.news];exact eq_comm) (.inr ⟨id,hx,hp,by simp,by simp[Ba.touch]⟩) (.inl hy)
theorem Qj (h63:n+m<=maxLen) (hF1:∀i,i<n->F i=f i) (hF2:∀i,i<m->F (n+i)=g i) (hone:∀i,i<m->∀j,j<e->((g i).cell j).one1=true) (id:Nat) (hx:ev x= .osl id e n) (hp:pre id=some (.vec el e n f)) (id2:Nat) (t2:TypeId) (hy:ev y= .osl id2 e m) (hp2:pre id2=some (.vec t2 e m g)):Cw P B D0 o ev pre (.osl nid e (n+m)) (.grow2 id id2 nid (.vec el e (n+m) F)):=
 Qh x y t ho ht e bytes z hi hze he n m hm f g F nid hF1 hF2 hone h63 hbytes (.grow2 id id2 nid (.vec el e (n+m) F)) (λi=>id==i) (λi c=>by simp[Ba.on]) (λi=>by simp[Ba.news];exact eq_comm) (.inr ⟨id,hx,hp,by simp,by simp[Ba.touch]⟩) (.inr ⟨id2,t2,hy,hp2,by simp[Ba.touch]⟩)
end
end Go.Proofs.YtbggmndaahbojaaGreat
namespace Go.Proofs.YtbggmndaahbojaaGreat
open Go.RowKit
variable {P:Program} {R:Option Nat} {B:Nat} {D0:Ap} {o:Oper} {ev:Operand->AV} {pre:Nat->Option Ar} {s:St} {Q:Exit->St->Prop}
def AV.map1 (g:AV->AV):AV->AV
 | .agg l=> .agg (l.map g)
 | .tup l=> .tup (l.map g)
 | .fn f l=> .fn f (l.map g)
 |x=>g x
theorem VR.map1 {E E':Ap} {g:AV->AV} (hg:∀x v,VR E x v->VR E' (g x) v) {x:AV} {v:Value} (h:VR E x v):VR E' (x.map1 g) v:=by
 have lst:∀(l:List AV) (vs:Array Value),(∀i,i<l.length->VR E (l.getD i .top) (vs.getD i undef))->∀i,i<(l.map g).length->VR E' ((l.map g).getD i .top) (vs.getD i undef):=λl vs h i hi=>by
  have hi2:i<l.length:=by simpa using hi
  have e1:(l.map g).getD i .top=g (l.getD i .top):=by simp[hi2]
  rw[e1];exact hg _ _ (h i hi2)
 cases h with
 |agg _ l vs hn h=>exact .agg _ _ _ (by simpa using hn) (lst l vs h)
 |tup _ l vs hn h=>exact .tup _ _ _ (by simpa using hn) (lst l vs h)
 |fn _ f l vs hn h=>exact .fn _ _ _ _ (by simpa using hn) (lst l vs h)
 |lit _ v=>exact hg _ _ (.lit _ _)
 |sl0=>exact hg _ _ (.sl0 ..)
 |slc _ _ _ _ _ _ hnc h=>exact hg _ _ (.slc _ _ _ _ _ _ hnc h)
 |sl _ _ _ _ _ _ _ us hn hD hc hr=>exact hg _ _ (.sl _ _ _ _ _ _ _ us hn hD hc hr)
 |elt _ _ _ _ _ us hD hc hr=>exact hg _ _ (.elt _ _ _ _ _ us hD hc hr)
 |ptr _ _ _ hA=>exact hg _ _ (.ptr _ _ _ hA)
 |yld _ _ hA=>exact hg _ _ (.yld _ _ hA)
 |osl _ _ _ _ hA=>exact hg _ _ (.osl _ _ _ _ hA)
 |osw _ _ _ _ _ _ _ hA ha=>exact hg _ _ (.osw _ _ _ _ _ _ _ hA ha)
 |top _ v=>exact hg _ _ (.top _ _)
def mapT (g:AV->AV) (t:Fd):Fd:=t.map λp=>(p.1,p.2.map1 g)
theorem VR.mapT {E E':Ap} {g:AV->AV} (hg:∀x v,VR E x v->VR E' (g x) v):∀(t:Fd) (i:Nat) (v:Value),VR E (Bl t i) v->VR E' (Bl (YtbggmndaahbojaaGreat.mapT g t) i) v
 |[],_,_,_=> .top _ _
 |(k,x)::t,i,v,h=>by
  show VR E' (Bl ((k,x.map1 g)::YtbggmndaahbojaaGreat.mapT g t) i) v
  rw[Gr] at h ⊢
  by_cases e:k=i
  rw[if_pos e] at h ⊢;exact VR.map1 hg h
  rw[if_neg e] at h ⊢;exact VR.mapT hg t i v h
def Ar.mapB (g:AV->AV):Ar->Ar
 | .box t cs=> .box t (cs.map g)
 | .vec t e n f=> .vec t e n f
 | .loop st pe sp t n=> .loop st pe sp (mapT g t) n
def frzB (id:Nat) (cs:List AV):AV->AV
 | .ptr id' off=>if id'=id then .elt (cs.length-off) (λi=>cs.getD (off+i) .top) else .ptr id' off
 | .osl id' e' m=>if id'=id then .top else .osl id' e' m
 |x=>x
def Ap.fr (E:Ap) (id:Nat):Ap:={ E with D:=λb=>E.D b\/b=E.π id }
theorem Ap.le_fr (E:Ap) (id:Nat):E.le (E.fr id):=⟨λ_ h=>h,λ_ _=>rfl,λ_ h=> .inl h,λ_ _=>rfl,λ_ _=>rfl⟩
theorem sV (g:AV->AV):∀(h:Cx) (id:Nat),Ak (h.map λp=>(p.1,p.2.mapB g)) id=(Ak h id).map (Ar.mapB g)
 |[],_=>rfl
 |(i,b)::h,id=>by
  simp only[List.map_cons,Ak]
  by_cases e:i=id
  rw[if_pos e,if_pos e];rfl
  rw[if_neg e,if_neg e];exact sV g h id
theorem BR.mapB {E E':Ap} {g:AV->AV} (hg:∀x v,VR E x v->VR E' (g x) v) (hle:E.le E') (hw:E'.w=E.w) {b:Ar} {k cap:Nat} (h:BR E b k cap):BR E' (b.mapB g) k cap:=by
 cases h with
 |box t cs _ _ arr hb hn h=>
  refine .box _ _ _ _ arr (by rw[hw];exact hb) (by simpa using hn) λi hi=>?_
  have hi2:i<cs.length:=by simpa using hi
  have e1:(cs.map g).getD i .top=g (cs.getD i .top):=by simp[hi2]
  rw[e1];exact hg _ _ (h i hi2)
 |vec t e n f _ _ arr hb hn hc hm h=>exact .vec _ _ _ _ _ _ arr (by rw[hw];exact hb) hn hc hm λi j hi hj=>(h i j hi hj).up hle
 |loop st pe sp t n _ _ m fid tm hb hn h=>exact .loop _ _ _ _ _ _ _ m fid tm (by rw[hw];exact hb) hn λi=>VR.mapT hg t i _ (h i)
theorem Pz (id:Nat) (g:AV->AV) (s':St) (hs':(⟨mapT g s.t,(Hx s.h id).map λp=>(p.1,p.2.mapB g),s.nx,s.n⟩:St)=s') {blk:Ar} (hc:Ak s.h id=some blk) (hg:∀E x v,HR B D0 E (Ak s.h)->VR E x v->VR (E.fr id) (g x) v) (E:Ap) (a:Act) (hs:Hv B D0 E s a):∃E',E'.w=E.w/\Hv B D0 E' s' a:=by
 refine⟨E.fr id,rfl,?_⟩
 subst hs'
 have hh:=hs.h
 obtain⟨j1,j2,j3,j4⟩:=hh.live id _ hc
 refine⟨hs.size,hs.df.up (E.le_fr id).D (E.le_fr id).blk,λi=>VR.mapT (hg E · · hh) s.t i _ (hs.t i),⟨λk x hx=>?_,λi j x y hx hy hne=>?_,λb hb=>?_,hh.abd,hh.le0.trans (E.le_fr id),λb hb=>?_,hh.B⟩,hs.A⟩
 all_goals
  try (have hm:=sV g (Hx s.h id))
 ·
  rw[hm,Ft] at hx
  by_cases e:id=k
  · rw[if_pos e] at hx;cases hx
  ·
   rw[if_neg e] at hx
   simp only[Option.map_eq_some_iff] at hx
   obtain⟨x',hx',rfl⟩:=hx
   obtain⟨l1,l2,l3,l4⟩:=hh.live k x' hx'
   refine⟨l1,BR.mapB (λx v=>hg E x v hh) (E.le_fr id) rfl l2,λhd=>?_,l4⟩
   rcases hd with hd|hd
   · exact l3 hd
   · exact hh.inj k id x' _ hx' hc (λe2=>e e2.symm) hd
 ·
  rw[hm,Ft] at hx hy
  by_cases e:id=i
  · rw[if_pos e] at hx;cases hx
  ·
   rw[if_neg e] at hx
   by_cases e2:id=j
   · rw[if_pos e2] at hy;cases hy
   ·
    rw[if_neg e2] at hy
    simp only[Option.map_eq_some_iff] at hx hy
    obtain⟨x',hx',rfl⟩:=hx
    obtain⟨y',hy',rfl⟩:=hy
    exact hh.inj i j x' y' hx' hy' hne
 ·
  rcases hb with hb|hb
  · exact hh.bnd b hb
  · rw[hb];exact j2.lt
 ·
  rcases hb with hb|hb
  · exact hh.new b hb
  · rw[hb];exact .inr j4
def Nu:List (Nat×Nat)->Nat->Option Nat
 |[],_=>none
 |(i,j)::l,id=>if i=id then some j else Nu l id
def lQ (ρ:List (Nat×Nat)):AV->AV
 | .ptr id off=>match Nu ρ id with|some j=> .ptr j off|none=> .top
 |x=>if x.flat then x else .top
def Si (ρ:List (Nat×Nat)):AV->AV
 | .ptr id off=>match Nu ρ id with|some j=> .ptr j off|none=> .top
 | .osl id e n=>match Nu ρ id with|some j=> .osl j e n|none=> .top
 | .osw id e o n=>match Nu ρ id with|some j=> .osw j e o n|none=> .top
 | .yld id=>match Nu ρ id with|some j=> .yld j|none=> .top
 | .agg l=>if l.all AV.flat then .agg l else .top
 | .tup l=>if l.all AV.flat then .tup l else .top
 | .fn f l=> .fn f (l.map (lQ ρ))
 |x=>x
def xV (ρ:List (Nat×Nat)) (h:Cx):Cx:=ρ.filterMap λp=>(Ak h p.1).map λb=>(p.2,b.mapB (Si ρ))
theorem Lg:∀{ρ:List (Nat×Nat)} {i j:Nat},Nu ρ i=some j->(i,j)∈ρ
 |[],_,_,h=>by cases h
 |(a,b)::ρ,i,j,h=>by
  simp only[Nu] at h
  by_cases e:a=i
  rw[if_pos e] at h;cases h;subst e;exact List.mem_cons_self
  rw[if_neg e] at h;exact List.mem_cons_of_mem _ (Lg h)
def Kq:List Nat->Bool
 |[]=>true
 |a::l=>(l.all λb=> !Nat.beq a b)&&Kq l
theorem Uo:∀{ρ:List (Nat×Nat)},Kq (ρ.map (·.2))=true->∀{i i' j:Nat},(i,j)∈ρ->(i',j)∈ρ->i=i'
 |[],_,_,_,_,h,_=>by cases h
 |(a,b)::ρ,hd,i,i',j,h,h'=>by
  simp only[List.map_cons,Kq,Bool.and_eq_true] at hd
  obtain⟨h1,h2⟩:=hd
  have no:∀k,(k,b)∈ρ->False:=λk hk=>by
   have:=List.all_eq_true.1 h1 b (List.mem_map.2 ⟨_,hk,rfl⟩)
   have e9:Nat.beq b b=true:=Nat.beq_refl b
   rw[e9] at this
   cases this
  cases h with
  |head=>
   cases h' with
   |head=>rfl
   |tail _ h'=>exact(no _ h').elim
  |tail _ h=>
   cases h' with
   |head=>exact(no _ h).elim
   |tail _ h'=>exact Uo h2 h h'
theorem oG {ρ:List (Nat×Nat)} (hd:Kq (ρ.map (·.1))=true) {i j j':Nat} (h:(i,j)∈ρ) (h':(i,j')∈ρ):j=j':=
 Uo (ρ:=ρ.map λp=>(p.2,p.1)) (by simpa [Function.comp_def] using hd) (List.mem_map.2 ⟨_,h,rfl⟩) (List.mem_map.2 ⟨_,h',rfl⟩)
theorem kP:∀{h:Cx} {id:Nat} {b:Ar},Ak h id=some b->(id,b)∈h
 |[],_,_,h=>by cases h
 |(i,c)::h,id,b,hh=>by
  simp only[Ak] at hh
  by_cases e:i=id
  rw[if_pos e] at hh;cases hh;subst e;exact List.mem_cons_self
  rw[if_neg e] at hh;exact List.mem_cons_of_mem _ (kP hh)
def dI:Cx->Prop
 |[]=>True
 |(_,.vec _ e n f)::h=>(∀i,i<n->∀j,j<e->((f i).cell j).flat=true)/\dI h
 |(_,.box _ _)::h=>dI h
 |(_,.loop ..)::h=>dI h
theorem Ti:∀{h:Cx} {id:Nat} {t:TypeId} {e n:Nat} {f:Nat->AV},dI h->Ak h id=some (.vec t e n f)->∀i,i<n->∀j,j<e->((f i).cell j).flat=true
 |[],_,_,_,_,_,_,h=>by cases h
 |(k,.vec t' e' n' f')::h,id,t,e,n,f,hf,hh=>by
  simp only[Ak] at hh
  by_cases e1:k=id
  rw[if_pos e1] at hh;cases hh;exact hf.1
  rw[if_neg e1] at hh;exact Ti hf.2 hh
 |(k,.box t' cs)::h,id,t,e,n,f,hf,hh=>by
  simp only[Ak] at hh
  by_cases e1:k=id
  rw[if_pos e1] at hh;cases hh
  rw[if_neg e1] at hh;exact Ti (h:=h) hf hh
 |(k,.loop _ _ _ _ _)::h,id,t,e,n,f,hf,hh=>by
  simp only[Ak] at hh
  by_cases e1:k=id
  rw[if_pos e1] at hh;cases hh
  rw[if_neg e1] at hh;exact Ti (h:=h) hf hh
theorem Ur (ρ:List (Nat×Nat)) (h:Cx) {j:Nat} {b:Ar} (hb:Ak (xV ρ h) j=some b):∃i b0,(i,j)∈ρ/\Ak h i=some b0/\b=b0.mapB (Si ρ):=by
 have:=kP hb
 simp only[xV,List.mem_filterMap,Option.map_eq_some_iff] at this
 obtain⟨⟨i,j'⟩,hm,b0,h1,h2⟩:=this
 cases h2
 exact⟨i,b0,hm,h1,rfl⟩
theorem iD (ρ:List (Nat×Nat)) (nx' k0:Nat) (hA0:∀id,D0.A id->id<k0) (s':St) (hs':(⟨mapT (Si ρ) s.t,xV ρ s.h,nx',s.n⟩:St)=s') (hd:Kq (ρ.map (·.2))=true) (hd1:Kq (ρ.map (·.1))=true) (hl:(ρ.all λp=>(Ak s.h p.1).isSome&&Nat.blt p.2 nx')=true) (hk0:(Nat.ble k0 nx'&&ρ.all λp=>Nat.beq p.1 p.2||Nat.ble k0 p.2)=true) (hfl:dI s.h) (E:Ap) (a:Act) (hs:Hv B D0 E s a):∃E',E'.w=E.w/\Hv B D0 E' s' a:=by
 subst hs'
 have hh:=hs.h
 let inv:Nat->Nat:=λj=>((ρ.find? λp=>Nat.beq p.2 j).map (·.1)).getD j
 have hinv:∀i j,(i,j)∈ρ->inv j=i:=λi j hm=>by
  show ((ρ.find? λp=>Nat.beq p.2 j).map (·.1)).getD j=i
  cases hf:ρ.find? λp=>Nat.beq p.2 j with
  |none=>
   have:=List.find?_eq_none.1 hf _ hm
   simp at this
  |some q=>
   have h1:=List.find?_some hf
   have h2:=List.mem_of_find?_eq_some hf
   have h3:q.2=j:=Nat.eq_of_beq_eq_true h1
   obtain⟨q1,q2⟩:=q
   simp only at h3
   subst h3
   exact Uo hd h2 hm
 have hlive:∀i j,(i,j)∈ρ->∃b,Ak s.h i=some b/\j<nx':=λi j hm=>by
  have:=List.all_eq_true.1 hl _ hm
  simp only[Bool.and_eq_true,Nat.blt_eq] at this
  exact⟨_,(Option.isSome_iff_exists.1 this.1).choose_spec,this.2⟩
 have hk1:=Bool.and_eq_true_iff.1 hk0
 have hinv0:∀j,D0.A j->inv j=j:=λj hj=>by
  show ((ρ.find? λp=>Nat.beq p.2 j).map (·.1)).getD j=j
  cases hf:ρ.find? λp=>Nat.beq p.2 j with
  |none=>rfl
  |some q=>
   have h1:=List.find?_some hf
   have h2:=List.mem_of_find?_eq_some hf
   have h3:q.2=j:=Nat.eq_of_beq_eq_true h1
   have h4:=List.all_eq_true.1 hk1.2 q h2
   rw[Bool.or_eq_true,Nat.ble_eq] at h4
   have h5:=hA0 j hj
   rcases h4 with h4|h4
   show q.1=j
   rw[Nat.eq_of_beq_eq_true h4,h3]
   omega
 let E':Ap:={ π:=λj=>E.π (inv j),cap:=λj=>E.cap (inv j),A:=λj=>(∃i,(i,j)∈ρ)\/D0.A j,D:=E.D,w:=E.w }
 have hle0:D0.le E':=⟨λj hj=> .inr hj,λj hj=>by show E.π (inv j)=_;rw[hinv0 j hj];exact hh.le0.π j hj,hh.le0.D,hh.le0.blk,λj hj=>by show E.cap (inv j)=_;rw[hinv0 j hj];exact hh.le0.cap j hj⟩
 have hren0:∀x v,VR E x v->VR E' (lQ ρ x) v:=λx v hv=>by
  have sl:E.fz.le E':=Ap.fz_le_of (λ_ h=>h) λ_ _=>rfl
  have fl:VR E' (if x.flat then x else .top) v:=by
   by_cases hf:x.flat=true
   rw[if_pos hf];exact(hv.flat hf).up sl
   rw[if_neg hf];exact .top _ _
  cases hv with
  |ptr _ id off hA=>
   unfold lQ
   simp only
   cases hj:Nu ρ id with
   |none=>exact .top _ _
   |some j=>
    have hm:=Lg hj
    have:=VR.ptr E' j off (.inl ⟨id,hm⟩)
    rw[show E'.π j=E.π id from by show E.π (inv j)=_;rw[hinv id j hm]] at this
    exact this
  |_=>exact fl
 have hren:∀x v,VR E x v->VR E' (Si ρ x) v:=λx v hv=>by
  have sl:E.fz.le E':=Ap.fz_le_of (λ_ h=>h) λ_ _=>rfl
  cases hv with
  |ptr _ id off hA=>
   unfold Si
   simp only
   cases hj:Nu ρ id with
   |none=>exact .top _ _
   |some j=>
    have hm:=Lg hj
    have:=VR.ptr E' j off (.inl ⟨id,hm⟩)
    rw[show E'.π j=E.π id from by show E.π (inv j)=_;rw[hinv id j hm]] at this
    exact this
  |osl _ id e n hA=>
   unfold Si
   simp only
   cases hj:Nu ρ id with
   |none=>exact .top _ _
   |some j=>
    have hm:=Lg hj
    have:=VR.osl E' j e n (.inl ⟨id,hm⟩)
    rw[show E'.π j=E.π id from by show E.π (inv j)=_;rw[hinv id j hm],show E'.cap j=E.cap id from by show E.cap (inv j)=_;rw[hinv id j hm]] at this
    exact this
  |yld _ id hA=>
   unfold Si
   simp only
   cases hj:Nu ρ id with
   |none=>exact .top _ _
   |some j=>
    have hm:=Lg hj
    have:=VR.yld E' j (.inl ⟨id,hm⟩)
    rw[show E'.π j=E.π id from by show E.π (inv j)=_;rw[hinv id j hm]] at this
    exact this
  |agg _ l vs hn h=>
   unfold Si
   simp only
   by_cases hf:l.all AV.flat=true
   rw[if_pos hf];exact((VR.agg E l vs hn h).free hf).up sl
   rw[if_neg hf];exact .top _ _
  |tup _ l vs hn h=>
   unfold Si
   simp only
   by_cases hf:l.all AV.flat=true
   rw[if_pos hf];exact((VR.tup E l vs hn h).free hf).up sl
   rw[if_neg hf];exact .top _ _
  |fn _ f l vs hn h=>
   refine .fn _ _ _ _ (by simpa using hn) λi hi=>?_
   have hi2:i<l.length:=by simpa using hi
   have e1:(l.map (lQ ρ)).getD i .top=lQ ρ (l.getD i .top):=by simp[hi2]
   rw[e1]
   exact hren0 _ _ (h i hi2)
  |osw _ id e o n a c hA ha=>
   unfold Si
   simp only
   cases hj:Nu ρ id with
   |none=>exact .top _ _
   |some j=>
    have hm:=Lg hj
    have:=VR.osw E' j e o n a c (.inl ⟨id,hm⟩) ha
    rw[show E'.π j=E.π id from by show E.π (inv j)=_;rw[hinv id j hm]] at this
    exact this
  |lit _ v=>exact .lit _ _
  |sl0=>exact .sl0 _ _ _ _ _
  |slc _ _ _ _ _ _ hnc h=>exact .slc _ _ _ _ _ _ hnc (by cases h with
   |sl0=>exact .sl0 _ _ _ _ _
   |sl _ _ _ _ _ _ _ us hn hD hc hr=>exact .sl _ _ _ _ _ _ _ us hn hD hc λi j hi hj=>(hr i j hi hj).up sl.fz)
  |sl _ _ _ _ _ _ _ us hn hD hc hr=>exact .sl _ _ _ _ _ _ _ us hn hD hc λi j hi hj=>(hr i j hi hj).up sl.fz
  |elt _ _ _ _ _ us hD hc hr=>exact .elt _ _ _ _ _ us hD hc λj hj=>(hr j hj).up sl.fz
  |top=>exact .top _ _
 refine⟨E',rfl,hs.size,hs.df,λi=>VR.mapT hren s.t i _ (hs.t i),⟨λj x hx=>?_,λi j x y hx hy hne=>?_,hh.bnd,λj hj=>?_,hle0,hh.new,hh.B⟩,λj hj=>?_⟩
 obtain⟨i,b0,hm,h1,rfl⟩:=Ur ρ s.h hx
 obtain⟨l1,l2,l3,l4⟩:=hh.live i b0 h1
 have e1:E'.π j=E.π i:=by show E.π (inv j)=_;rw[hinv i j hm]
 have e2:E'.cap j=E.cap i:=by show E.cap (inv j)=_;rw[hinv i j hm]
 rw[e1,e2]
 refine⟨.inl ⟨i,hm⟩,?_,l3,l4⟩
 cases l2 with
 |box t cs _ _ arr hb hn h=>
  refine .box _ _ _ _ arr hb (by simpa using hn) λk hk=>?_
  have hk2:k<cs.length:=by simpa using hk
  have e1:(cs.map (Si ρ)).getD k .top=Si ρ (cs.getD k .top):=by simp[hk2]
  rw[e1];exact hren _ _ (h k hk2)
 |vec t e n f _ _ arr hb hn hc hm2 h=>
  exact .vec _ _ _ _ _ _ arr hb hn hc hm2 λk q hk hq=>((h k q hk hq).flat (Ti hfl h1 k hk q hq)).up (Ap.fz_le_of (λ_ h=>h) λ_ _=>rfl)
 |loop st pe sp t n _ _ m fid tm hb hn h=>exact .loop _ _ _ _ _ _ _ m fid tm hb hn λi=>VR.mapT hren t i _ (h i)
 obtain⟨i1,b1,m1,h1,rfl⟩:=Ur ρ s.h hx
 obtain⟨i2,b2,m2,h2,rfl⟩:=Ur ρ s.h hy
 show E.π (inv i)≠E.π (inv j)
 rw[hinv _ _ m1,hinv _ _ m2]
 refine hh.inj i1 i2 b1 b2 h1 h2 λe=>hne ?_
 subst e
 exact oG hd1 m1 m2
 show E.π (inv j)<_
 rcases hj with⟨i,hm⟩|hj
 obtain⟨b,hb,_⟩:=hlive i j hm
 rw[hinv i j hm]
 exact hh.abd i (hh.live i b hb).1
 rw[hinv0 j hj]
 exact hh.abd j (hh.le0.A j hj)
 rcases hj with⟨i,hm⟩|hj
 exact(hlive i j hm).choose_spec.2
 have:=hA0 j hj
 have h6:k0<=nx':=by simpa using hk1.1
 exact Nat.lt_of_lt_of_le this h6
def Ql (rv:ResultVar) (tmps:Array Value):Sem Value:=match rv with| .tmp t=>pure (tmps.getD t undef)| .cell q t=>do loadVar t (<-asAddr (tmps.getD q undef))
def Oj (P:Program) (B:Nat) (D0:Ap) (s:St) (rv:ResultVar) (x:AV):Prop:=∀E a,Hv B D0 E s a->∃v,(Ql rv a.tmps).run P E.w= .ok v E.w/\VR E.fz x v
theorem Ad0 {t:Tmp} {x:AV} (h:Bl s.t t=x) (hf:x.free=true):Oj P B D0 s (.tmp t) x:=λE a hs=>⟨_,rfl,by rw[<-h];exact(hs.t t).free (by rw[h];exact hf)⟩
theorem pT {q:Tmp} {T:TypeId} {x:AV} (id:Nat) (hT:∀w,(isAgg T).run P w= .ok false w) (off:Nat) (cs:List AV) (h:Bl s.t q= .ptr id off) (t:TypeId) (hb:Ak s.h id=some (.box t cs)) (hl:off<cs.length) (hx:cs.getD off .top=x) (hf:x.free=true):Oj P B D0 s (.cell q T) x:=λE a hs=>by
 have h1:=hs.t q
 rw[h] at h1
 obtain⟨arr,h2,h3⟩:=hs.h.box hb
 generalize hy:a.tmps.getD q undef=y at h1
 cases h1 with
 |ptr _ _ _ hA=>
  refine⟨arr.getD off undef,?_,by rw[<-hx];exact(h3.2 off).free (by rw[hx];exact hf)⟩
  have h4:=Li (P:=P) (T:=T) E.w (hT _) (Ii h2 (i:=off) (by rw[h3.1];exact hl))
  simp only[Instr.loadAt,Instr.sureAddr,Sem.run_bind,Sem.run_pure,Result.andThen_ok] at h4
  simp[Ql,hy,asAddr,h4]
theorem xY {q:Tmp} {T:TypeId} {x:AV} (id:Nat) (hT:∀w,(isAgg T).run P w= .ok true w) (n:Nat) (hn:∀w,(sizeOf T).run P w= .ok n w) (off:Nat) (cs:List AV) (h:Bl s.t q= .ptr id off) (t:TypeId) (hb:Ak s.h id=some (.box t cs)) (hl:off+n<=cs.length) (hx:mkAgg ((cs.drop off).take n)=x) (hf:x.free=true):Oj P B D0 s (.cell q T) x:=λE a hs=>by
 have h1:=hs.t q
 rw[h] at h1
 obtain⟨arr,h2,h3⟩:=hs.h.box hb
 generalize hy:a.tmps.getD q undef=y at h1
 cases h1 with
 |ptr _ _ _ hA=>
  have h5:=h3.drop off n hl
  have h6:=VR.mkAgg h5.1 h5.2
  rw[hx] at h6
  refine⟨_,?_,h6.free hf⟩
  have h4:=Mr (P:=P) (T:=T) (hT E.w) (hn E.w) h2 (by rw[h3.1];exact hl)
  simp only[Instr.loadAt,Instr.sureAddr,Sem.run_bind,Sem.run_pure,Result.andThen_ok] at h4
  simp[Ql,hy,asAddr,h4]
theorem pR {fn:Func} (hr:fn.results=#[]):Nl P B D0 fn s (.lit (.tuple #[])):=λ_ _ _=>⟨_,results_none hr _ _ _,.lit _ _⟩
theorem Hn (fn:Func) (tmps:Array Value):results fn tmps=(do let vs<-fn.results.mapM λrv=>Ql rv tmps;pure (if h:vs.size=1 then vs[0] else .tuple vs)):=by
 unfold results Ql
 rfl
theorem Ai3 {fn:Func} {rv:ResultVar} {x:AV} (hr:fn.results=#[rv]) (h:Oj P B D0 s rv x):Nl P B D0 fn s x:=λE a hs=>by
 obtain⟨v,h1,h2⟩:=h E a hs
 exact⟨v,by simp[Hn,hr,h1],h2⟩
theorem VR.tupl {E:Ap} (l:List AV) (vs:Array Value) (hn:vs.size=l.length) (h:∀i,i<l.length->VR E (l.getD i .top) (vs.getD i undef)) (r:AV) (hr:YtbggmndaahbojaaGreat.mkTup l=r):VR E r (.tuple vs):=by
 rw[<-hr];exact VR.mkTup hn λi=>VR.tops h i
theorem Ai4 {fn:Func} {r1 r2:ResultVar} {x y:AV} (hr:fn.results=#[r1,r2]) (h1:Oj P B D0 s r1 x) (h2:Oj P B D0 s r2 y):Nl P B D0 fn s (mkTup [x,y]):=λE a hs=>by
 obtain⟨v1,e1,f1⟩:=h1 E a hs
 obtain⟨v2,e2,f2⟩:=h2 E a hs
 refine⟨.tuple #[v1,v2],by simp[Hn,hr,e1,e2],VR.tupl [x,y] _ rfl (λi hi=>?_) _ rfl⟩
 match i with
 |0=>exact f1
 |1=>exact f2
 |i+2=>simp at hi;omega
theorem Ai5 {fn:Func} {r1 r2 r3:ResultVar} {x y z:AV} (hr:fn.results=#[r1,r2,r3]) (h1:Oj P B D0 s r1 x) (h2:Oj P B D0 s r2 y) (h3:Oj P B D0 s r3 z):Nl P B D0 fn s (mkTup [x,y,z]):=λE a hs=>by
 obtain⟨v1,e1,f1⟩:=h1 E a hs
 obtain⟨v2,e2,f2⟩:=h2 E a hs
 obtain⟨v3,e3,f3⟩:=h3 E a hs
 refine⟨.tuple #[v1,v2,v3],by simp[Hn,hr,e1,e2,e3],VR.tupl [x,y,z] _ rfl (λi hi=>?_) _ rfl⟩
 match i with
 |0=>exact f1
 |1=>exact f2
 |2=>exact f3
 |i+3=>simp at hi;omega
theorem pM (c x y:Operand) (ho:o.op= .pick c x y) (hc:ev c= .bool true):Cw P B D0 o ev pre (ev x) .none:=
 Bc (.inl rfl) λE a _ _ _ hv=>by
  have h:=hv c (by simp[ho,Op.operands])
  rw[hc] at h
  have h:=h.lit_inv
  exact⟨a.eval x,by simp[execOp,ho,h,asBool],hv x (by simp[ho,Op.operands])⟩
theorem pL (c x y:Operand) (ho:o.op= .pick c x y) (hc:ev c= .bool false):Cw P B D0 o ev pre (ev y) .none:=
 Bc (.inl rfl) λE a _ _ _ hv=>by
  have h:=hv c (by simp[ho,Op.operands])
  rw[hc] at h
  have h:=h.lit_inv
  exact⟨a.eval y,by simp[execOp,ho,h,asBool],hv y (by simp[ho,Op.operands])⟩
def AV.isPtr:AV->Bool| .ptr .. | .elt .. | .fn .. =>true|_=>false
theorem gU (x:Operand) (ho:o.op= .nilCheck x) (X:AV) (hx:ev x=X) (hp:X.isPtr=true):Cw P B D0 o ev pre X .none:=by
 subst hx
 refine Bc (.inl rfl) λE a _ _ _ hv=>?_
 have h:=hv x (by simp[ho,Op.operands])
 refine⟨a.eval x,?_,h⟩
 generalize hX:ev x=X at h hp
 generalize hy:a.eval x=y at h
 cases h<;>first|(simp[execOp,ho,hy];done)|cases hp
theorem Fl (T:TypeId) (x y:Operand) (ho:o.op= .index T x y) {el:TypeId} {len:Nat} (hu:P.underlying T=some (.array len el)) (e:Nat) (hsz:∀w,(sizeOf el).run P w= .ok e w) (k:Nat) (b:Bool) (hb:∀w,(isAgg el).run P w= .ok b w) (l:List AV) (j:Int) (hx:ev x= .agg l) (hy:ev y= .int j) (hj:j=(k:Int)) (hk:k<len) (hl:k*e+e<=l.length) (h1:b=false->e=1) (V:AV) (hV:V=if b then mkAgg ((l.drop (k*e)).take e) else l.getD (k*e) .top):
  Cw P B D0 o ev pre V .none:=by
 refine Bc (.inl rfl) λE a c _ _ hv=>?_
 have h:=hv x (by simp[ho,Op.operands])
 have h2:=hv y (by simp[ho,Op.operands])
 rw[hx] at h
 rw[hy] at h2
 have e2:=h2.lit_inv
 have hj2:(0:Int)<=j/\j<(len:Int):=by omega
 have hj3:j.toNat=k:=by omega
 generalize hz:a.eval x=z at h
 cases h with
 |agg _ _ vs hs hr=>
  have hvs:Vj E l vs:=⟨hs,λi=>VR.tops hr i⟩
  cases b with
  |true=>
   refine⟨.agg (vs.extract (k*e) (k*e+e)),?_,?_⟩
   simp[execOp,ho,hz,e2,Instr.index,asIntOf,run_underlying hu,part,hb,hsz,hj2,hj3]
   rw[hV];exact VR.mkAgg (hvs.drop (k*e) e hl).1 (hvs.drop (k*e) e hl).2
  |false=>
   have:=h1 rfl
   subst this
   refine⟨vs.getD (k*1) undef,?_,by rw[hV];exact hvs.2 (k*1)⟩
   have h3:k<vs.size:=by omega
   simp[execOp,ho,hz,e2,Instr.index,asIntOf,run_underlying hu,part,hb,hsz,hj2,hj3,h3]
theorem Ot (T:TypeId) (x:Operand) (lo hi:Option Operand) (ho:o.op= .slice T x lo hi none) {el:TypeId} (hu:P.underlying T=some (.slice el)) (id e n:Nat) (hsz:∀w,(sizeOf el).run P w= .ok e w) (t:TypeId) (f:Nat->AV) (hp:pre id=some (.vec t e n f)) (hx:ev x= .osl id e n) (l h:Nat) (hl:(lo=none/\l=0)\/∃y k,lo=some y/\ev y= .int k/\k=(l:Int)) (hh:(hi=none/\h=n)\/∃y k,hi=some y/\ev y= .int k/\k=(h:Int)) (h1:l<=h) (h2:h<=n):
  Cw P B D0 o ev pre (.osw id e l (h-l)) (.read id):=by
 refine Bc (.inr ⟨id,rfl⟩) λE a c hr htch hv=>?_
 have hc:=(htch id (by simp[Ba.touch])).trans hp
 obtain⟨arr,hb,hn,hcp,hrr⟩:=hr.vec hc
 have hvx:=hv x (by simp[ho,Op.operands])
 rw[hx] at hvx
 have key:∀A cp,n<=cp->a.eval x= .slice A n cp->(execOp a.eval o).run P E.w= .ok (.value (.slice (if cp=l then A else A.map (·.add (l*e))) (h-l) (cp-l))) E.w:=λA cp hcp hz=>by
  rcases hl with⟨rfl,rfl⟩|⟨y,k,rfl,hk,rfl⟩
  rcases hh with⟨rfl,rfl⟩|⟨y',k',rfl,hk',rfl⟩
  simp[execOp,ho,hz,Instr.sliceAt,run_underlying hu,Instr.slice,Instr.sliceBounds,hsz]
  have e2:=hv y' (by simp[ho,Op.operands])
  rw[hk'] at e2
  have e2:=e2.lit_inv
  simp[execOp,ho,hz,e2,Instr.sliceAt,run_underlying hu,Instr.slice,Instr.sliceBounds,Instr.sliceBound,asIntOf,hsz,show h<=cp by omega]
  have e1:=hv y (by simp[ho,Op.operands])
  rw[hk] at e1
  have e1:=e1.lit_inv
  rcases hh with⟨rfl,rfl⟩|⟨y',k',rfl,hk',rfl⟩
  simp[execOp,ho,hz,e1,Instr.sliceAt,run_underlying hu,Instr.slice,Instr.sliceBounds,Instr.sliceBound,asIntOf,hsz,h1]
  have e2:=hv y' (by simp[ho,Op.operands])
  rw[hk'] at e2
  have e2:=e2.lit_inv
  simp[execOp,ho,hz,e1,e2,Instr.sliceAt,run_underlying hu,Instr.slice,Instr.sliceBounds,Instr.sliceBound,asIntOf,hsz,h1,show h<=cp by omega]
 generalize hz:a.eval x=z at hvx
 cases hvx with
 |osl _ _ _ _ hA=>
  refine⟨_,key _ _ hcp.2.1 hz,?_⟩
  have e3:(if E.cap id=l then (some ⟨E.π id,0,none⟩:Option Addr) else (some ⟨E.π id,0,none⟩:Option Addr).map (·.add (l*e)))=some ⟨E.π id,if E.cap id=l then 0 else l*e,none⟩:=by
   by_cases e4:E.cap id=l
   rw[if_pos e4,if_pos e4]
   rw[if_neg e4,if_neg e4];simp[Ff]
  rw[e3]
  exact .osw _ _ _ _ _ _ _ hA λh0=>by rw[if_neg ω]
end Go.Proofs.YtbggmndaahbojaaGreat
namespace Go.Proofs.YtbggmndaahbojaaGreat
open Go.RowKit
variable {P:Program} {R:Option Nat} {B:Nat} {D0:Ap} {o:Oper} {s:St} {Q:Exit->St->Prop}
def vM (P:Program) (B:Nat) (D0:Ap) (fn:Func) (s:St) (r:AV):Prop:=
 ∀E a,Hv B D0 E s a->∃v,(results fn a.tmps).run P E.w= .ok v E.w/\VR E r v
def AaC (P:Program) (B:Nat) (D1:Ap) (fn:Func) (K:AV->Cx->Nat->Prop):Exit->St->Prop:=λe s'=>(e= .ret\/e= .normal)/\∃r,vM P B D1 fn s' r/\K r s'.h s'.nx
theorem HR.turn {E:Ap} {c:Nat->Option Ar} (h:HR B D0 E c):HR B E E c:=⟨h.live,h.inj,h.bnd,h.abd,Ap.le.refl _,λ_ h=> .inl h,h.B⟩
theorem HR.back {E E':Ap} {c c':Nat->Option Ar} (h0:HR B D0 E c) (h:HR B E E' c'):HR B D0 E' c':=⟨h.live,h.inj,h.bnd,h.abd,h0.le0.trans h.le0,λb hb=>by
 rcases h.new b hb with hb|hb
 exact h0.new b hb
 exact .inr hb,h.B⟩
theorem Oq {f:FuncId} {fn:Func} {c:Code} {args:List AV} {h:Cx} {nx:Nat} {K:AV->Cx->Nat->Prop} (hf:Tryz.prog.funcs[f]?=some fn) (hc:fn.body=some c) (n:Nat) (hn:fn.ntmps=n) (hle:args.length<=n)
  (hbody:∀D1,(∀id,D1.A id->id<nx)->AC Tryz.prog none B D1 c ⟨Da args 0,h,nx,n⟩ (AaC Tryz.prog B D1 fn K))
  {E:Ap} {vs:Array Value} (hh:HR B D0 E (Ak h)) (hA:∀id,E.A id->id<nx) (hsz:vs.size=args.length) (hv:∀i,i<args.length->VR E (args.getD i .top) (vs.getD i undef)):
  Calls Tryz.prog f vs E.w λe w'=>∃v r h' nx' E',e= .returned v/\E'.w=w'/\VR E' r v/\K r h' nx'/\E.le E'/\HR B D0 E' (Ak h')/\(∀id,E'.A id->id<nx')/\Below B E.w w':=by
 subst hn
 have hsim:Hv B E E ⟨Da args 0,h,nx,fn.ntmps⟩ { tmps:=vs++Array.replicate (fn.ntmps-vs.size) undef,defers:=[] }:=by
  refine⟨by simp[hsz];omega,Nk.nil _ _ _,λi=>?_,hh.turn,hA⟩
  have e0:=Lv args 0 i
  rw[Nat.zero_add] at e0
  show VR E (Bl (Da args 0) i) _
  rw[e0]
  by_cases hi:i<args.length
  have h2:(vs++Array.replicate (fn.ntmps-vs.size) undef).getD i undef=vs.getD i undef:=by
   simp only[Array.getD_eq_getD_getElem?,Array.getElem?_append_left (show i<vs.size by omega)]
  rw[h2]
  exact(hv i hi)
  rw[Γ,List.getElem?_eq_none ω]
  exact .top _ _
 refine Mh hf hc (wpIn_wide.1 (Cq ?_ ((hbody E hA).run E _ hsim)))
 rintro e a' w' ⟨s',E',rfl,⟨he,r,hr,hK⟩,hs,hb⟩
 obtain⟨ms,m1,m2,m3⟩:=hs.df
 have fin:bodyPostM Fence.wide 0 Tryz.prog fn (λe w'=>∃v r h' nx' E',e= .returned v/\E'.w=w'/\VR E' r v/\K r h' nx'/\E.le E'/\HR B D0 E' (Ak h')/\(∀id,E'.A id->id<nx')/\Below B E.w w') .ret a' E'.w:=by
  refine Qz ms m1 m2 (λm hm=>(m3 m hm).2.2.2) λW hk hz=>?_
  obtain⟨k1,k2⟩:=hs.unmark m3 hk hz
  obtain⟨v,hv,hrv⟩:=hr _ _ k1
  exact⟨v,hv,v,r,s'.h,s'.nx,_,rfl,rfl,hrv,hK,k1.h.le0,hh.back k1.h,k1.A,hb.trans k2⟩
 rcases he with rfl|rfl
 exact fin
 exact fin
theorem Hv.cont {E E':Ap} {a:Act} (hs:Hv B D0 E s a) {r:AV} {v:Value} {h':Cx} {nx':Nat} {d:Option Tmp} (hle:E.le E') (hv:VR E' r v) (hh:HR B D0 E' (Ak h')) (hA:∀id,E'.A id->id<nx') (hdn:∀k,d=some k->k<s.n):
  Hv B D0 E' ⟨Lc s.t d r,h',nx',s.n⟩ (a.put d v):=by
 refine⟨by rw[Zr];exact hs.size,by rw[Sh];exact hs.df.up hle.D hle.blk,λi=>?_,hh,hA⟩
 cases d with
 |none=>exact(hs.t i).up hle
 |some d=>
  show VR E' (Bl ((d,r)::s.t) i) _
  rw[Gr,Zq _ d i _ (by rw[hs.size];exact hdn d rfl)]
  by_cases e:d=i
  rw[if_pos e,if_pos e];exact hv
  rw[if_neg e,if_neg e];exact(hs.t i).up hle
theorem vG {ops:Array Oper} {rest:List Oper} (f:FuncId) {fn:Func} {c:Code} (args:List AV) (n:Nat) (hg:o.guard=none) (hdn:Ly o s.n=true)
  (hrun:∀(E:Ap) (a:Act),(∀x,VR E (s.ev x) (a.eval x))->∃vs:Array Value,(∀w,(execOp a.eval o).run Tryz.prog w= .ok (.enter f vs) w)/\vs.size=args.length/\∀i,i<args.length->VR E (args.getD i .top) (vs.getD i undef))
  (hf:Tryz.prog.funcs[f]?=some fn) (hc:fn.body=some c) (hn:fn.ntmps=n) (hle:Nat.ble args.length n=true)
  (hbody:∀D1,(∀id,D1.A id->id<s.nx)->AC Tryz.prog none B D1 c ⟨Da args 0,s.h,s.nx,n⟩ (AaC Tryz.prog B D1 fn λr h' nx'=>AL Tryz.prog R B D0 ops rest ⟨Lc s.t o.dst r,h',nx',s.n⟩ Q)):AL Tryz.prog R B D0 ops (o::rest) s Q:=by
 intro E a w0 hs hb
 refine wpListIn_plain hg λK hK=>Ug (Wq hdn) ?_
 obtain⟨vs,h1,h2,h3⟩:=hrun E a hs.ev
 unfold Oper.wp
 rw[h1]
 show Calls Tryz.prog f vs E.w _
 refine(Oq hf hc n hn (by simpa using hle) hbody hs.h hs.A h2 h3).mono ?_
 rintro e w' ⟨v,r,h',nx',E',rfl,rfl,hr,hk,k1,k2,k3,k4⟩
 exact hK _ _ (hk E' _ w0 (hs.cont k1 hr k2 k3 (Qy hdn)) (hb.trans k4))
theorem Agj (f:FuncId) (xs:Array Operand) (ts:Array TypeId) (ho:o.op= .call { callee:= .value (.func f),args:=xs,argTypes:=ts }) (hcall:∀(vs:Array Value) w,(callFunc f vs).run P w= .ok (.enter f vs) w) (args:List AV) (hargs:xs.toList.map s.ev=args) (E:Ap) (a:Act) (hv:∀x,VR E (s.ev x) (a.eval x)):
  ∃vs:Array Value,(∀w,(execOp a.eval o).run P w= .ok (.enter f vs) w)/\vs.size=args.length/\∀i,i<args.length->VR E (args.getD i .top) (vs.getD i undef):=by
 subst hargs
 refine⟨xs.map a.eval,λw=>by simp[execOp,ho,resolve,Deferred.ofValue,Act.eval,invoke,hcall],by simp,λi hi=>?_⟩
 have hi2:i<xs.size:=by simpa using hi
 have e1:(xs.toList.map s.ev).getD i .top=s.ev xs[i]:=by simp[hi2]
 have e2:(xs.map a.eval).getD i undef=a.eval xs[i]:=by simp[hi2]
 rw[e1,e2]
 exact hv _
theorem Ad6 (x:Operand) (f:FuncId) (xs:Array Operand) (ts:Array TypeId) (ho:o.op= .call { callee:= .value x,args:=xs,argTypes:=ts }) (caps:List AV) (hx:s.ev x= .fn f caps) (hcall:∀(vs:Array Value) w,(callFunc f vs).run P w= .ok (.enter f vs) w) (args:List AV) (hargs:xs.toList.map s.ev++caps=args) (E:Ap) (a:Act) (hv:∀x,VR E (s.ev x) (a.eval x)):
  ∃vs:Array Value,(∀w,(execOp a.eval o).run P w= .ok (.enter f vs) w)/\vs.size=args.length/\∀i,i<args.length->VR E (args.getD i .top) (vs.getD i undef):=by
 subst hargs
 have h:=hv x
 rw[hx] at h
 generalize hz:a.eval x=z at h
 cases h with
 |fn _ _ _ vs hn hr=>
  refine⟨xs.map a.eval++vs,λw=>by simp[execOp,ho,resolve,Deferred.ofValue,hz,invoke,hcall],by simp[hn],λi hi=>?_⟩
  by_cases hi1:i<xs.size
  have e1:(xs.toList.map s.ev++caps).getD i .top=s.ev xs[i]:=by simp[List.getElem?_append,hi1]
  have e2:(xs.map a.eval++vs).getD i undef=a.eval xs[i]:=by simp[Array.getD_eq_getD_getElem?,Array.getElem?_append,hi1]
  rw[e1,e2]
  exact hv _
  have hi3:i-xs.size<caps.length:=by simp at hi;omega
  have e1:(xs.toList.map s.ev++caps).getD i .top=caps.getD (i-xs.size) .top:=by simp[List.getElem?_append,hi1]
  have e2:(xs.map a.eval++vs).getD i undef=vs.getD (i-xs.size) undef:=by simp[Array.getD_eq_getD_getElem?,Array.getElem?_append,hi1]
  rw[e1,e2]
  exact hr _ hi3
theorem HR.sub {E:Ap} {c c':Nat->Option Ar} (h:HR B D0 E c) (hc:∀id b,c' id=some b->c id=some b):HR B D0 E c':=
 ⟨λid b hb=>h.live id b (hc id b hb),λi j x y hx hy=>h.inj i j x y (hc i x hx) (hc j y hy),h.bnd,h.abd,h.le0,h.new,h.B⟩
theorem HR.loopAt {E:Ap} {c:Nat->Option Ar} (h:HR B D0 E c) {id:Nat} {st:LoopState} {pe:Option Code} {sp:Fa} {t:Fd} {n:Nat} (hc:c id=some (.loop st pe sp t n)):∃m fid tm,E.w.heap[E.π id]?=some (.loop { state:=st,pending:=pe,fn:=fid,tmps:=tm,params:=sp.params,assign:=sp.assign,body:=sp.body,defers:=m })/\tm.size=n/\∀i,VR E (Bl t i) (tm.getD i undef):=by
 obtain⟨h1,h2,h3,h4⟩:=h.live id _ hc
 cases h2 with
 |loop _ _ _ _ _ _ _ m fid tm hb hn hr=>exact⟨m,fid,tm,hb,hn,hr⟩
theorem HR.turnLoop {E:Ap} {c:Nat->Option Ar} (h:HR B D0 E c) {id:Nat} {st st':LoopState} {pe pe':Option Code} {sp:Fa} {t:Fd} {n m:Nat} {fid:FuncId} {tm:Array Value} (hc:c id=some (.loop st pe sp t n)) (hn:tm.size=n) (hr:∀i,VR E (Bl t i) (tm.getD i undef)):
  E.le { E with w:=E.w.putObj (E.π id) (.loop { state:=st',pending:=pe',fn:=fid,tmps:=tm,params:=sp.params,assign:=sp.assign,body:=sp.body,defers:=m }) }/\Below B E.w (E.w.putObj (E.π id) (.loop { state:=st',pending:=pe',fn:=fid,tmps:=tm,params:=sp.params,assign:=sp.assign,body:=sp.body,defers:=m }))/\
   HR B D0 { E with w:=E.w.putObj (E.π id) (.loop { state:=st',pending:=pe',fn:=fid,tmps:=tm,params:=sp.params,assign:=sp.assign,body:=sp.body,defers:=m }) } (λi=>if id=i then some (.loop st' pe' sp t n) else c i):=
 h.set hc (λ_ hk=>World.putObj_heap_other hk) World.putObj_size rfl rfl rfl λhle=> .loop _ _ _ _ _ _ _ m fid tm (World.putObj_heap_same (h.live id _ hc).2.1.lt) hn λi=>(hr i).up hle
def cB:List Nat->List AV->Fd->Fd
 |p::ps,x::xs,t=>cB ps xs ((p,x)::t)
 |_,_,t=>t
theorem uG {E:Ap}:∀(ps:List Nat) (l:List AV) (vs:List Value) (t:Fd) (tm:Array Value),vs.length=l.length->(∀i,i<l.length->VR E (l.getD i .top) (vs.getD i undef))->(∀p∈ps,p<tm.size)->(∀i,VR E (Bl t i) (tm.getD i undef))->
  (((ps.zip vs).foldl (λt (p,v)=>t.setIfInBounds p v) tm).size=tm.size)/\∀i,VR E (Bl (cB ps l t) i) (((ps.zip vs).foldl (λt (p,v)=>t.setIfInBounds p v) tm).getD i undef)
 |[],l,vs,t,tm,_,_,_,h=>by
  refine⟨by simp,λi=>?_⟩
  have:cB [] l t=t:=by unfold cB;rfl
  rw[this]
  simpa using h i
 |p::ps,[],vs,t,tm,hl,_,_,h=>by
  have:vs=[]:=List.eq_nil_of_length_eq_zero hl
  subst this
  refine⟨by simp,λi=>?_⟩
  simpa [cB] using h i
 |p::ps,x::xs,[],t,tm,hl,_,_,_=>by simp at hl
 |p::ps,x::xs,v::vs,t,tm,hl,hv,hp,h=>by
  have hps:=hp p (by simp)
  have:=uG (E:=E) ps xs vs ((p,x)::t) (tm.setIfInBounds p v) (by simpa using hl) (λi hi=>by simpa using hv (i+1) (by simpa using hi)) (λq hq=>by simpa using hp q (by simp[hq])) (λi=>by
   rw[Gr]
   by_cases e:p=i
   subst e
   rw[if_pos rfl]
   have h0:=hv 0 (by simp)
   simpa [Array.getD_eq_getD_getElem?,hps] using h0
   rw[if_neg e]
   have:=h i
   rw[Array.getD_eq_getD_getElem?] at this ⊢
   rw[Array.getElem?_setIfInBounds_ne e]
   exact this)
  refine⟨by rw[List.zip_cons_cons,List.foldl_cons];exact this.1.trans (by simp),λi=>?_⟩
  rw[List.zip_cons_cons,List.foldl_cons]
  exact this.2 i
def psB (ps:Array Tmp) (k n:Nat):Bool:=Nat.beq ps.size k&&ps.toList.all λp=>Nat.blt p n
def Xq (P:Program) (R:Option Nat) (B:Nat) (D0:Ap) (ops:Array Oper) (rest:List Oper) (o:Oper) (s:St) (Q:Exit->St->Prop) (l:Nat) (_:Fa) (n:Nat):Exit->St->Prop
 | .normal,s2=>∃sp2 t2,Ak s2.h l=some (.loop .busy none sp2 t2 n)/\AL P R B D0 ops rest ⟨Lc s.t o.dst (.bool true),hset s2.h l (.loop .ready none sp2 t2 n),s2.nx,s.n⟩ Q
 | .ret,s2=>∃sp2 t2,Ak s2.h l=some (.loop .busy none sp2 t2 n)/\AL P R B D0 ops rest ⟨Lc s.t o.dst (.bool false),hset s2.h l (.loop .done (some .ret) sp2 t2 n),s2.nx,s.n⟩ Q
 | .exit id,s2=>∃sp2 t2,Ak s2.h l=some (.loop .busy none sp2 t2 n)/\AL P R B D0 ops rest ⟨Lc s.t o.dst (.bool false),hset s2.h l (.loop .done (some (.exit id)) sp2 t2 n),s2.nx,s.n⟩ Q
 |_,_=>False
theorem AaA {ops:Array Oper} {rest:List Oper} (x:Operand) (xs:Array Operand) (ts:Array TypeId) (l:Nat) {sp:Fa} (t:Fd) (n:Nat) (args:List AV) {ps:Array Tmp} {assign body:Code} (hps:sp.params=ps) (has:sp.assign=assign) (hbd:sp.body=body)
  (hg:∀E a,Hv B D0 E s a->Region.wanted o (yielded ops a.tmps)=true) (hdn:Ly o s.n=true) (ho:o.op= .call { callee:= .value x,args:=xs,argTypes:=ts }) (hx:s.ev x= .yld l) (hl:Ak s.h l=some (.loop .ready none sp t n)) (hargs:xs.toList.map s.ev=args) (hpb:psB ps args.length n=true) (s1:St) (hs1:(⟨cB ps.toList args t,s.h,s.nx,n⟩:St)=s1)
  (hbody:∀l0 D1,(∀id,D1.A id->id<s.nx)->(D1.A l/\D1.π l=l0)->AC Tryz.prog (some l0) B D1 assign s1 (oB (λs1=>∃sp1 t1,Ak s1.h l=some (.loop .ready none sp1 t1 n)/\
   AC Tryz.prog (some l0) B D1 body ⟨s1.t,hset s1.h l (.loop .busy none sp1 t1 n),s1.nx,s1.n⟩ (Xq Tryz.prog R B D0 ops rest o s Q l sp n)) λ_ _=>False)):AL Tryz.prog R B D0 ops (o::rest) s Q:=by
 subst hargs
 subst hs1
 subst hps
 subst has
 subst hbd
 intro E a w0 hs hb
 refine wpListIn_step λK hK=>?_
 rw[if_pos (hg E a hs)]
 refine⟨λ_ _=>trivial,?_⟩
 rw[Oper.semAt_eq _ _ _ (Zl (Wq hdn))]
 obtain⟨m,fid,tm,hL,hn,hr⟩:=hs.h.loopAt hl
 have hyv:VR E (.yld l) (a.eval x):=by rw[<-hx];exact hs.ev x
 have hpb:=Bool.and_eq_true_iff.1 hpb
 have hrun:(execOp a.eval o).run Tryz.prog E.w= .ok (.round (E.π l) fid ((sp.params.zip (xs.map a.eval)).foldl (λtmps (t,a)=>tmps.setIfInBounds t a) tm) sp.assign sp.body) E.w:=by
  generalize hz:a.eval x=z at hyv
  cases hyv with
  |yld _ _ _=>
   have hy:=run_yield (P:=Tryz.prog) (args:=xs.map a.eval) hL (by
    have:=Nat.eq_of_beq_eq_true hpb.1
    simp at this ⊢
    exact this.symm)
   simp[execOp,ho,resolve,Deferred.ofValue,hz,invoke,hy]
 rw[hrun]
 refine⟨λhf=>by simp[Ph,Fence.wide] at hf,roundIn_of_wpIn trivial ?_⟩
 have hz:=uG (E:=E) sp.params.toList (xs.toList.map s.ev) (xs.toList.map a.eval) t tm (by simp) (λi hi=>by
  have hi2:i<xs.size:=by simpa using hi
  have e1:(xs.toList.map s.ev).getD i .top=s.ev xs[i]:=by simp[hi2]
  have e2:(xs.toList.map a.eval).getD i undef=a.eval xs[i]:=by simp[hi2]
  rw[e1,e2]
  exact hs.ev _) (λp hp=>by
  have:=List.all_eq_true.1 hpb.2 p hp
  rw[hn]
  simpa [Nat.blt_eq] using this) hr
 have Gx:(sp.params.zip (xs.map a.eval)).foldl (λtmps (t,a)=>tmps.setIfInBounds t a) tm=(sp.params.toList.zip (xs.toList.map a.eval)).foldl (λt (p,v)=>t.setIfInBounds p v) tm:=by
  rw[<-Array.foldl_toList,Array.toList_zip,Array.toList_map]
 rw[Gx]
 have hsim:Hv B E E ⟨cB sp.params.toList (xs.toList.map s.ev) t,s.h,s.nx,n⟩ { tmps:=(sp.params.toList.zip (xs.toList.map a.eval)).foldl (λt (p,v)=>t.setIfInBounds p v) tm,defers:=[] }:=⟨hz.1.trans hn,Nk.nil _ _ _,hz.2,hs.h.turn,hs.A⟩
 refine Cq ?_ ((hbody (E.π l) E hs.A ⟨(hs.h.live l _ hl).1,rfl⟩).run E _ hsim)
 rintro e a1 w1 ⟨s1,E1,rfl,hq,hs1,hb1⟩
 cases e with
 |normal=>
  obtain⟨sp1,t1,hl1,hq⟩:=hq
  obtain⟨m1,fid1,tm1,hL1,hn1,hr1⟩:=hs1.h.loopAt hl1
  have hπ:E1.π l=E.π l:=hs1.h.le0.π l (hs.h.live l _ hl).1
  rw[hπ] at hL1
  refine⟨_,run_beginRound hL1 rfl,?_⟩
  obtain⟨u1,u2,u3⟩:=hs1.h.turnLoop (st':= .busy) (pe':=none) (m:=m1) (fid:=fid1) hl1 hn1 hr1
  rw[hπ] at u1 u2 u3
  have hs2:Hv B E _ ⟨s1.t,hset s1.h l (.loop .busy none sp1 t1 n),s1.nx,s1.n⟩ a1:=⟨hs1.size,hs1.df.up u1.D u1.blk,λi=>(hs1.t i).up u1,by
   have:(λid=>Ak (hset s1.h l (.loop .busy none sp1 t1 n)) id)=λi=>if l=i then some (.loop .busy none sp1 t1 n) else Ak s1.h i:=funext λid=>Dw _ _ _ _
   show HR B E _ (λid=>Ak (hset s1.h l (.loop .busy none sp1 t1 n)) id)
   rw[this];exact u3,hs1.A⟩
  refine Cq ?_ (hq.run _ _ hs2)
  rintro e a3 w3 ⟨s3,E3,rfl,hq3,hs3,hb3⟩
  have fin:∀(jump:Option Code) (sp2:Fa) (t2:Fd),Ak s3.h l=some (.loop .busy none sp2 t2 n)->AL Tryz.prog R B D0 ops rest ⟨Lc s.t o.dst (.bool jump.isNone),hset s3.h l (.loop (if jump.isNone then .ready else .done) jump sp2 t2 n),s3.nx,s.n⟩ Q->
    ∃v w',(Instr.endRound (E.π l) jump).run Tryz.prog E3.w= .ok v w'/\K (a.put o.dst v) w':=λjump sp2 t2 hl3 hk=>by
   obtain⟨m3,fid3,tm3,hL3,hn3,hr3⟩:=hs3.h.loopAt hl3
   have hπ3:E3.π l=E.π l:=hs3.h.le0.π l (hs.h.live l _ hl).1
   rw[hπ3] at hL3
   refine⟨_,_,run_endRound jump hL3,?_⟩
   obtain⟨v1,v2,v3⟩:=hs3.h.turnLoop (st':=if jump.isNone then .ready else .done) (pe':=jump) (m:=m3) (fid:=fid3) hl3 hn3 hr3
   rw[hπ3] at v1 v2 v3
   have hh:HR B E { E3 with w:=E3.w.putObj (E.π l) (.loop { state:=if jump.isNone then .ready else .done,pending:=jump,fn:=fid3,tmps:=tm3,params:=sp2.params,assign:=sp2.assign,body:=sp2.body,defers:=m3 }) } (Ak (hset s3.h l (.loop (if jump.isNone then .ready else .done) jump sp2 t2 n))):=by
    have:(λid=>Ak (hset s3.h l (.loop (if jump.isNone then .ready else .done) jump sp2 t2 n)) id)=λi=>if l=i then some (.loop (if jump.isNone then .ready else .done) jump sp2 t2 n) else Ak s3.h i:=funext λid=>Dw _ _ _ _
    show HR B E _ (λid=>Ak (hset s3.h l (.loop (if jump.isNone then .ready else .done) jump sp2 t2 n)) id)
    rw[this];exact v3
   have hk2:=hk { E3 with w:=E3.w.putObj (E.π l) (.loop { state:=if jump.isNone then .ready else .done,pending:=jump,fn:=fid3,tmps:=tm3,params:=sp2.params,assign:=sp2.assign,body:=sp2.body,defers:=m3 }) } _ w0 (hs.cont (hs3.h.le0.trans v1) (.lit _ _) (hs.h.back hh) hs3.A (Qy hdn)) (hb.trans ((hb1.trans u2).trans (hb3.trans v2)))
   exact hK _ _ hk2
  cases e with
  |normal=>obtain⟨sp2,t2,hl3,hk⟩:=hq3;exact fin none sp2 t2 hl3 hk
  |ret=>obtain⟨sp2,t2,hl3,hk⟩:=hq3;exact fin (some .ret) sp2 t2 hl3 hk
  |exit id=>obtain⟨sp2,t2,hl3,hk⟩:=hq3;exact fin (some (.exit id)) sp2 t2 hl3 hk
  |_=>exact hq3.elim
 |_=>exact hq.elim
def Ajm (P:Program) (B:Nat) (D0 D1:Ap) (fn:Func) (s:St) (Q:Exit->St->Prop) (_:Fa):Exit->St->Prop:=AaC P B D1 fn λ_ h' nx'=>∃st pe sp t' n',Ak h' s.nx=some (.loop st pe sp t' n')/\st≠.busy/\
 match pe with
 |none=>Q .normal ⟨s.t,Hx h' s.nx,nx',s.n⟩
 |some c=>AC P none B D0 c ⟨s.t,Hx h' s.nx,nx',s.n⟩ Q
theorem zF {g:Operand} {ps:Array Tmp} {assign body:Code} (f:FuncId) {fn:Func} {c:Code} (caps:List AV) (n:Nat) (hg:s.ev g= .fn f caps) (hcall:∀(vs:Array Value) w,(callFunc f vs).run Tryz.prog w= .ok (.enter f vs) w) (hf:Tryz.prog.funcs[f]?=some fn) (hc:fn.body=some c) (hn:fn.ntmps=n) (hle:Nat.ble (caps.length+1) n=true)
  (hbody:∀sp,sp.params=ps->sp.assign=assign->sp.body=body->∀D1,(∀id,D1.A id->id<s.nx+1)->AC Tryz.prog none B D1 c ⟨Da (.yld s.nx::caps) 0,hset s.h s.nx (.loop .ready none sp s.t s.n),s.nx+1,n⟩ (Ajm Tryz.prog B D0 D1 fn s Q sp)):AC Tryz.prog none B D0 (.rangeFunc g ps assign body) s Q:=by
 refine⟨λE a hs=>wpIn_rangeFunc λfid _=>?_⟩
 let sp:Fa:=⟨ps,assign,body⟩
 let E1:Ap:={ E with D:=λb=>E.D b\/b=E.w.heap.size,w:=E.w.alloc (.deferred (some [])) }
 have old:∀b,b<E.w.heap.size->(E.w.alloc (.deferred (some []))).heap[b]?=E.w.heap[b]?:=λb hb=>Below.heap_alloc _ _ _ hb
 have hle1:E.le E1:=⟨λ_ h=>h,λ_ _=>rfl,λ_ h=> .inl h,λb hb=>old b (hs.h.bnd b hb),λ_ _=>rfl⟩
 have hz1:E1.w.heap.size=E.w.heap.size+1:=by simp[E1]
 have hh1:HR B D0 E1 (Ak s.h):=⟨λid b hb=>by
   obtain⟨h1,h2,h3,h4⟩:=hs.h.live id b hb
   refine⟨h1,h2.up hle1 (old _ h2.lt),λh=>?_,h4⟩
   rcases h with h|h
   · exact h3 h
   ·
    have:=h2.lt
    have h5:E.π id=E.w.heap.size:=h
    omega,hs.h.inj,λb hb=>by
   rcases hb with hb|hb
   ·
    have:=hs.h.bnd b hb
    rw[hz1];omega
   · rw[hz1,hb];omega,λid hi=>by have:=hs.h.abd id hi;show E.π id<_;rw[hz1];omega,hs.h.le0.trans hle1,λb hb=>by
   rcases hb with hb|hb
   · exact hs.h.new b hb
   · rw[hb];exact .inr hs.h.B,by have:=hs.h.B;rw[hz1];omega⟩
 have hnid:¬E1.A s.nx:=λh=>Nat.lt_irrefl _ (hs.A s.nx h)
 obtain⟨hle2,hb2,hm2⟩:=hh1.more hnid 0 (.loop { state:= .ready,pending:=none,fn:=fid,tmps:=a.tmps,params:=ps,assign:=assign,body:=body,defers:=E.w.heap.size })
 obtain⟨E2,hE2⟩:∃E2,E2=E1.more s.nx 0 (.loop { state:= .ready,pending:=none,fn:=fid,tmps:=a.tmps,params:=ps,assign:=assign,body:=body,defers:=E.w.heap.size }):=⟨_,rfl⟩
 rw[<-hE2] at hle2 hb2 hm2
 have hw2:E2.w=(E.w.alloc (.deferred (some []))).alloc (.loop { state:= .ready,pending:=none,fn:=fid,tmps:=a.tmps,params:=ps,assign:=assign,body:=body,defers:=E.w.heap.size }):=by rw[hE2];rfl
 have hπ2:E2.π s.nx=E.w.heap.size+1:=by
  rw[hE2]
  show (if s.nx=s.nx then E1.w.heap.size else _)=_
  rw[if_pos rfl,hz1]
 have hle02:E.le E2:=hle1.trans hle2
 have hA2:∀id,E2.A id->id<s.nx+1:=λid hid=>by
  rw[hE2] at hid
  rcases hid with hid|hid
  · have:=hs.A id hid;omega
  · omega
 have hA2n:E2.A s.nx:=by rw[hE2];exact .inr rfl
 have hD2:∀b,E2.D b↔(E.D b\/b=E.w.heap.size):=λb=>by rw[hE2];exact Iff.rfl
 have hh2:HR B D0 E2 (Ak (hset s.h s.nx (.loop .ready none sp s.t s.n))):=by
  have:(λid=>Ak (hset s.h s.nx (.loop .ready none sp s.t s.n)) id)=λi=>if s.nx=i then some (.loop .ready none sp s.t s.n) else Ak s.h i:=funext λid=>Dw _ _ _ _
  show HR B D0 E2 (λid=>Ak (hset s.h s.nx (.loop .ready none sp s.t s.n)) id)
  rw[this]
  refine hm2 _ (.loop _ _ _ _ _ _ _ E.w.heap.size fid a.tmps ?_ hs.size λi=>(hs.t i).up hle02)
  rw[hw2,hz1]
  have:=World.alloc_heap_new (E.w.alloc (.deferred (some []))) (.loop { state:= .ready,pending:=none,fn:=fid,tmps:=a.tmps,params:=ps,assign:=assign,body:=body,defers:=E.w.heap.size })
  simp only[World.size_alloc] at this
  exact this
 have hmk2:E2.w.heap[E.w.heap.size]?=some (.deferred (some [])):=by
  rw[hw2]
  exact(Below.heap_alloc _ _ _ (by simp)).trans (World.alloc_heap_new E.w _)
 have hgv:VR E (.fn f caps) (a.eval g):=by rw[<-hg];exact hs.ev g
 obtain⟨vs,hvs1,hvs2,hvs3⟩:∃vs:Array Value,a.eval g= .func (.func f) #[] vs/\vs.size=caps.length/\∀i,i<caps.length->VR E (caps.getD i .top) (vs.getD i undef):=by
  generalize a.eval g=z at hgv
  cases hgv with
  |fn _ _ _ vs hn hr=>exact⟨vs,rfl,hn,hr⟩
 refine⟨E.w.heap.size+1,[{ target:= .collected E.w.heap.size,args:=#[] }],E2.w,{ target:= .fn (.func f) vs,args:=#[.func (.yield (E.w.heap.size+1)) #[] #[]] },E2.w,f,
  #[.func (.yield (E.w.heap.size+1)) #[] #[]]++vs,E2.w,?_,?_,λ_ _=>trivial,?_,λhf=>by simp[Ph,Fence.wide] at hf,?_⟩
 · rw[hw2];exact run_enterLoop_outer _ _ _ _ _
 ·
  simp only[resolve,hvs1]
  simp[go_sem]
 · simp[invoke,go_sem,hcall]
 ·
  have hcalls:=Oq (K:=λ_ h' nx'=>∃st pe sp t' n',Ak h' s.nx=some (.loop st pe sp t' n')/\st≠.busy/\
    match pe with
    |none=>Q .normal ⟨s.t,Hx h' s.nx,nx',s.n⟩
    |some c=>AC Tryz.prog none B D0 c ⟨s.t,Hx h' s.nx,nx',s.n⟩ Q) hf hc n hn (args:= .yld s.nx::caps) (by simpa using hle) (hbody sp rfl rfl rfl) (E:=E2) (vs:=#[.func (.yield (E.w.heap.size+1)) #[] #[]]++vs) hh2 hA2 (by simp[hvs2];omega) (λi hi=>by
     cases i with
     |zero=>
      have:=VR.yld E2 s.nx hA2n
      rw[hπ2] at this
      have e2:(#[Value.func (.yield (E.w.heap.size+1)) #[] #[]]++vs).getD 0 undef= .func (.yield (E.w.heap.size+1)) #[] #[]:=by simp[Array.getD_eq_getD_getElem?,Array.getElem?_append]
      rw[e2]
      exact this
     |succ i=>
      have hi2:i<caps.length:=by simpa using hi
      have h3:=(hvs3 i hi2).up hle02
      have e2:(#[Value.func (.yield (E.w.heap.size+1)) #[] #[]]++vs).getD (i+1) undef=vs.getD i undef:=by
       simp[Array.getD_eq_getD_getElem?,Array.getElem?_append]
      rw[e2]
      simpa using h3)
  refine callsIn_wide.2 (hcalls.mono ?_)
  rintro e w' ⟨v,r,h',nx',E',rfl,rfl,hr,⟨st,pe,sp',t',n',hl,hst,hk⟩,k1,k2,k3,k4⟩
  obtain⟨m,fid',tm,hL,hn',hr'⟩:=k2.loopAt hl
  have hπ':E'.π s.nx=E.w.heap.size+1:=(k1.π s.nx hA2n).trans hπ2
  rw[hπ'] at hL
  refine⟨pe,_,run_endLoop hL hst,?_⟩
  obtain⟨v1,v2,v3⟩:=k2.turnLoop (st':= .exhausted) (pe':=pe) (m:=m) (fid:=fid') hl hn' hr'
  rw[hπ'] at v1 v2 v3
  have hle3:=(hle02.trans k1).trans v1
  have hbl:Below B E.w (E'.w.putObj (E.w.heap.size+1) (.loop { state:= .exhausted,pending:=pe,fn:=fid',tmps:=tm,params:=sp'.params,assign:=sp'.assign,body:=sp'.body,defers:=m })):=by
   refine Below.trans ?_ (k4.trans v2)
   rw[hw2]
   exact((Below.refl B E.w).alloc hs.h.B _).alloc (by have:=hs.h.B;simp;omega) _
  have hsim:Hv B D0 { E' with w:=E'.w.putObj (E.w.heap.size+1) (.loop { state:= .exhausted,pending:=pe,fn:=fid',tmps:=tm,params:=sp'.params,assign:=sp'.assign,body:=sp'.body,defers:=m }) } ⟨s.t,Hx h' s.nx,nx',s.n⟩ { a with defers:=[{ target:= .collected E.w.heap.size,args:=#[] }]++a.defers }:=by
   refine⟨hs.size,?_,λi=>(hs.t i).up hle3,v3.sub λid b hb=>?_,k3⟩
   ·
    obtain⟨ms,m1,m2,m3⟩:=hs.df
    refine⟨E.w.heap.size::ms,.mark _ m1,List.nodup_cons.2 ⟨λhm=>Nat.lt_irrefl _ (hs.h.bnd _ (m3 _ hm).1),m2⟩,λq hq=>?_⟩
    rcases List.mem_cons.1 hq with rfl|hq
    ·
     have hd:E2.D E.w.heap.size:=(hD2 _).2 (.inr rfl)
     have hd':=k1.D _ hd
     exact⟨hd',λh=>Nat.lt_irrefl _ (hs.h.bnd _ (hs.h.le0.D _ h)),hs.h.B,(v1.blk _ hd').trans ((k1.blk _ hd).trans hmk2)⟩
    ·
     obtain⟨n1,n2,n3,n4⟩:=m3 q hq
     exact⟨hle3.D _ n1,n2,n3,(hle3.blk _ n1).trans n4⟩
   ·
    rw[Ft] at hb
    by_cases e:s.nx=id
    · rw[if_pos e] at hb;cases hb
    ·
     rw[if_neg e] at hb ⊢
     exact hb
  cases pe with
  |none=>exact⟨_,_,rfl,hk,hsim,hbl⟩
  |some c'=>
   refine Cq ?_ (hk.run _ _ hsim)
   rintro e a3 w3 ⟨s3,E3,rfl,hq3,hs3,hb3⟩
   exact⟨s3,E3,rfl,hq3,hs3,hbl.trans hb3⟩
end Go.Proofs.YtbggmndaahbojaaGreat
namespace Go.Proofs.YtbggmndaahbojaaGreat
open Go.RowKit
variable {P:Program} {R:Option Nat} {B:Nat} {D0:Ap} {o:Oper} {ev:Operand->AV} {pre:Nat->Option Ar} {s:St} {Q:Exit->St->Prop}
theorem rF {ops:Array Oper} {l:List Oper} {s':St} (hw:∀E a,Hv B D0 E s a->∃E',E'.w=E.w/\Hv B D0 E' s' a) (h:AL P R B D0 ops l s' Q):AL P R B D0 ops l s Q:=by
 intro E a w0 hs hb
 obtain⟨E',he,hs'⟩:=hw E a hs
 have:=h E' a w0 hs' (by rw[he];exact hb)
 rw[he] at this
 exact this
theorem wX (d:Nat) (b v:Bool) (hb:b=v) (hd:Bl s.t d= .bool b) (E:Ap) (a:Act) (h:Hv B D0 E s a):∃E',E'.w=E.w/\Hv B D0 E' ⟨(d,.bool v)::s.t,s.h,s.nx,s.n⟩ a:=by
 subst hb
 refine⟨E,rfl,h.size,h.df,λi=>?_,h.h,h.A⟩
 show VR E (Bl ((d,.bool b)::s.t) i) _
 rw[Gr]
 by_cases e:d=i
 subst e;rw[if_pos rfl,<-hd];exact h.t d
 rw[if_neg e];exact h.t i
theorem Fk {G:Prop} (b:Bool) (h1:b=true->G) (h2:b=false->G):G:=by cases b;exact h2 rfl;exact h1 rfl
def vQ (id:Nat):Ar->AV->AV
 | .box _ cs,.ptr id' off=>if id'=id then (if cs.all AV.flat then .elt (cs.length-off) (λi=>cs.getD (off+i) .top) else .top) else .top
 | .box _ cs,.fn g l=> .fn g (l.map λx=>match x with| .ptr id' off=>if id'=id then (if cs.all AV.flat then .elt (cs.length-off) (λi=>cs.getD (off+i) .top) else .top) else .top| .lit v=> .lit v| .sl e n f=> .sl e n f| .elt n f=> .elt n f|_=> .top)
 | .vec _ e n f,.osl id' e' m=>if id'=id then (if Nat.beq e' e&&Nat.ble m n then .sl e m f else .top) else .top
 |_,x=>if x.free then x else .top
theorem AaV {E:Ap} {c:Nat->Option Ar} (hh:HR B D0 E c) {id:Nat} {t:TypeId} {cs:List AV} (hc:c id=some (.box t cs)) {id' off:Nat} {v:Value} (hv:VR E (.ptr id' off) v):
  VR (E.fr id).fz (if id'=id then (if cs.all AV.flat then AV.elt (cs.length-off) (λi=>cs.getD (off+i) .top) else .top) else .top) v:=by
 by_cases e1:id'=id
 subst e1
 rw[if_pos rfl]
 by_cases e2:cs.all AV.flat=true
 rw[if_pos e2]
 obtain⟨arr,hb,hvs⟩:=hh.box hc
 cases hv with
 |ptr _ _ _ hA=>
  refine .elt _ _ _ _ _ (λj=>arr.getD (off+j) undef) (.inr rfl) (λj hj=>Ii hb (by rw[hvs.1];omega)) λj hj=>?_
  have:=hvs.2 (off+j)
  have e3:cs.getD (off+j) .top=cs[off+j]:=by simp[show off+j<cs.length by omega]
  refine(this.flat ?_).up (E.le_fr id').fz
  rw[e3]
  exact List.all_eq_true.1 e2 _ (List.getElem_mem _)
 rw[if_neg e2];exact .top _ _
 rw[if_neg e1];exact .top _ _
theorem rM {E:Ap} {c:Nat->Option Ar} (hh:HR B D0 E c) {id:Nat} {blk:Ar} (hc:c id=some blk) (hf:∀t e n f,blk= .vec t e n f->∀i,i<n->∀j,j<e->((f i).cell j).flat=true) {x:AV} {v:Value} (hv:VR E x v):VR (E.fr id).fz (vQ id blk x) v:=by
 have base:VR (E.fr id).fz (if x.free then x else .top) v:=by
  by_cases h:x.free=true
  rw[if_pos h];exact(hv.free h).up (E.le_fr id).fz
  rw[if_neg h];exact .top _ _
 cases blk with
 |box t cs=>
  cases x with
  |ptr id' off=>exact AaV hh hc hv
  |fn g l=>
   unfold vQ
   cases hv with
   |fn _ _ _ vs hn h=>
    refine .fn _ _ _ _ (by simpa using hn) λi hi=>?_
    have hi2:i<l.length:=by simpa using hi
    have h1:=h i hi2
    simp only[Γ,List.getElem?_map,hi2,List.getElem?_eq_getElem,Option.map_some,Option.getD_some] at h1 ⊢
    generalize l[i]=y at h1
    cases y with
    |ptr id' off=>exact AaV hh hc h1
    |lit w=>exact(h1.flat rfl).up (E.le_fr id).fz
    |sl e n f=>exact(h1.flat rfl).up (E.le_fr id).fz
    |elt n f=>exact(h1.flat rfl).up (E.le_fr id).fz
    |_=>exact .top _ _
  |_=>exact base
 |vec t e n f=>
  cases x with
  |osl id' e' m=>
   show VR (E.fr id).fz (if id'=id then (if (Nat.beq e' e&&Nat.ble m n)=true then AV.sl e m f else .top) else .top) v
   by_cases e1:id'=id
   subst e1
   rw[if_pos rfl]
   by_cases e2:(Nat.beq e' e&&Nat.ble m n)=true
   rw[if_pos e2]
   obtain⟨arr,hb,hn,hcp,hr⟩:=hh.vec hc
   simp only[Bool.and_eq_true,Nat.ble_eq] at e2
   obtain⟨e3,e4⟩:=e2
   obtain rfl:=Nat.eq_of_beq_eq_true e3
   cases hv with
   |osl _ _ _ _ hA=>
    by_cases hm:m=0
    subst hm;exact .sl0 _ _ _ _ _
    refine .sl _ _ _ _ _ _ _ (λi j=>arr.getD (i*e'+j) undef) ω (.inr rfl) (λi j hi hj=>?_) λi j hi hj=>?_
    have hlt:i*e'+j<n*e':=by
     have:=Nat.mul_le_mul_right e' (show i+1<=n by omega)
     rw[Nat.succ_mul] at this;omega
    rw[Nat.zero_add]
    exact Ii hb ω
    exact((hr i j ω hj).flat (hf _ _ _ _ rfl i ω j hj)).up (E.le_fr id').fz
   rw[if_neg e2];exact .top _ _
   rw[if_neg e1];exact .top _ _
  |_=>exact base
 |loop st pe sp t n=>
  exact base
theorem Jr (f:FuncId) (xs:Array Operand) (ts:Array TypeId) (ho:o.op= .call { callee:= .value (.func f),args:=xs,argTypes:=ts }) (hcall:∀(vs:Array Value) w,(callFunc f vs).run P w= .ok (.enter f vs) w) (id:Nat) (blk:Ar) (hp:pre id=some blk) (hfl:∀t e n f,blk= .vec t e n f->∀i,i<n->∀j,j<e->((f i).cell j).flat=true) (Da:List AV) (hargs0:xs.toList.map ev=Da) (args:List AV) (hargs:Da.map (vQ id blk)=args) (r:Value) (hf:AF P f args (.lit r)):Cw P B D0 o ev pre (.lit r) (.read id):=by
 subst hargs
 subst hargs0
 refine⟨?_⟩
 intro E a c K Q _ hh htch _ hv k
 have hc:=(htch id (by simp[Ba.touch])).trans hp
 unfold Oper.wp
 rw[show (execOp a.eval o).run P E.w=(callFunc f (xs.map a.eval)).run P E.w by simp[execOp,ho,resolve,Deferred.ofValue,Act.eval,invoke],hcall]
 show Calls P f _ E.w _
 refine(hf (E.fr id) (xs.map a.eval) (λb hb=>?_) (by simp) λi hi=>?_).mono ?_
 rcases hb with hb|hb
 exact hh.bnd b hb
 rw[hb];exact(hh.live id _ hc).2.1.lt
 have hi2:i<xs.size:=by simpa using hi
 have e1:((xs.toList.map ev).map (vQ id blk)).getD i .top=vQ id blk (ev xs[i]):=by simp[hi2]
 have e2:(xs.map a.eval).getD i undef=a.eval xs[i]:=by simp[hi2]
 rw[e1,e2]
 exact rM hh hc hfl (hv _ (by simp[ho,Op.operands,Call.operands]))
 rintro e w' ⟨v,D',rfl,hr,hb,hd1,hd2,hd3⟩
 have hz:(E.fr id).w=E.w:=rfl
 rw[hz] at hb
 have hle:E.le { E with w:=w' }:=⟨λ_ h=>h,λ_ _=>rfl,λ_ h=>h,λb hb'=>hb.block b (hh.bnd b hb'),λ_ _=>rfl⟩
 have hV:VR { E with w:=w' } (.lit r) v:=by
  have:=hr.lit_inv
  rw[this];exact .lit _ _
 refine k v { E with w:=w' } hle (hb.mono hh.B) hV ⟨λi x hx=>?_,hh.inj,λb hb'=>Nat.lt_of_lt_of_le (hh.bnd b hb') hb.size,λi hi=>Nat.lt_of_lt_of_le (hh.abd i hi) hb.size,hh.le0.trans hle,hh.new,Nat.le_trans hh.B hb.size⟩ λi hi=> .inl hi
 obtain⟨j1,j2,j3,j4⟩:=hh.live i x hx
 exact⟨j1,j2.up hle (hb.block _ j2.lt),j3,j4⟩
theorem yB {t el:TypeId} (hu:P.underlying t=some (.slice el)) (A:Option Addr) (n c:Nat) (w:World):(Op.equal t (.slice A n c) (.slice none 0 0)).run P w= .ok A.isNone w:=by
 unfold Op.equal
 rw[show Op.maxDepth=9999+1 from rfl]
 unfold Op.equalIn
 cases A<;>simp[run_underlying hu]
theorem pV {t el:TypeId} (hu:P.underlying t=some (.slice el)) (A:Option Addr) (n c:Nat) (w:World):(binOp .eql t (.slice A n c) (.slice none 0 0)).run P w= .ok (.bool A.isNone) w:=by
 show (do pure (Value.bool (<-Op.equal t (.slice A n c) (.slice none 0 0))):Sem Value).run P w=_
 simp[yB hu]
theorem yC {t t' el:TypeId} {x:Operand} {a:Act} (ho:o.op= .binOp .eql t x (.const (.slice none 0 0)) t') (hu:P.underlying t=some (.slice el)) {A:Option Addr} {n c:Nat} (hz:a.eval x= .slice A n c) (w:World):(execOp a.eval o).run P w= .ok (.value (.bool A.isNone)) w:=by
 have h0:execOp a.eval o=(do eqGuard .eql t x (.const (.slice none 0 0)) (.slice A n c) (.slice none 0 0);pure (.value (<-binOp .eql t (.slice A n c) (.slice none 0 0))):Sem Next):=by
  unfold execOp
  rw[ho]
  simp only[hz]
  rfl
 have h1:(eqGuard .eql t x (.const (.slice none 0 0)) (.slice A n c) (.slice none 0 0)).run P w= .ok () w:=rfl
 rw[h0]
 simp[Sem.run_bind,h1,pV hu]
theorem xN (t t':TypeId) (x:Operand) (ho:o.op= .binOp .eql t x (.const (.slice none 0 0)) t') {el:TypeId} (hu:P.underlying t=some (.slice el)) (e n:Nat) (f:Nat->AV) (hx:ev x= .sl e n f) (hn:0<n):Cw P B D0 o ev pre (.bool false) .none:=by
 refine Bc (.inl rfl) λE a c _ _ hv=>⟨.bool false,?_,.lit _ _⟩
 have h:=hv x (by simp[ho,Op.operands])
 rw[hx] at h
 generalize hz:a.eval x=z at h
 cases h with
 |sl0=>omega
 |sl _ _ _ _ b q c' us hn hD hc hr=>exact yC ho hu hz _
theorem Ja (x y:Operand) (ts:Array TypeId) (ho:o.op= .call { callee:= .builtin .max,args:=#[x,y],argTypes:=ts }) (a b:Int) (hx:ev x= .int a) (hy:ev y= .int b):Cw P B D0 o ev pre (.int (max a b)) .none:=by
 refine Bc (.inl rfl) λE ac c _ _ hv=>⟨.int .i64 (max a b),?_,.lit _ _⟩
 have h1:=hv x (by simp[ho,Op.operands,Call.operands])
 have h2:=hv y (by simp[ho,Op.operands,Call.operands])
 rw[hx] at h1
 rw[hy] at h2
 have h1:=h1.lit_inv
 have h2:=h2.lit_inv
 have h3:(Builtin.max2 (.int .i64 a) (.int .i64 b)).run P E.w= .ok (.int .i64 (max a b)) E.w:=by
  unfold Builtin.max2
  rw[Sem.run_pure]
  congr 2
  by_cases hab:a<b<;>by_cases hba:b<a<;>simp[hab]<;>omega
 simp[execOp,ho,resolve,h1,h2,invoke,builtin,Builtin.max_,h3]
theorem Rb (x y:Operand) (ts:Array TypeId) (ho:o.op= .call { callee:= .builtin .min,args:=#[x,y],argTypes:=ts }) (a b:Int) (hx:ev x= .int a) (hy:ev y= .int b):Cw P B D0 o ev pre (.int (min a b)) .none:=by
 refine Bc (.inl rfl) λE ac c _ _ hv=>⟨.int .i64 (min a b),?_,.lit _ _⟩
 have h1:=hv x (by simp[ho,Op.operands,Call.operands])
 have h2:=hv y (by simp[ho,Op.operands,Call.operands])
 rw[hx] at h1
 rw[hy] at h2
 have h1:=h1.lit_inv
 have h2:=h2.lit_inv
 have h3:(Builtin.min2 (.int .i64 a) (.int .i64 b)).run P E.w= .ok (.int .i64 (min a b)) E.w:=by
  unfold Builtin.min2
  rw[Sem.run_pure]
  congr 2
  by_cases hab:a<b<;>by_cases hba:b<a<;>simp[hba]<;>omega
 simp[execOp,ho,resolve,h1,h2,invoke,builtin,Builtin.min_,h3]
theorem Aei (d e n:Nat) (f:Nat->AV) (hd:Bl s.t d= .slc e n f) (E:Ap) (a:Act) (h:Hv B D0 E s a):∃E',E'.w=E.w/\Hv B D0 E' ⟨(d,.sl e n f)::s.t,s.h,s.nx,s.n⟩ a:=by
 refine⟨E,rfl,h.size,h.df,λi=>?_,h.h,h.A⟩
 show VR E (Bl ((d,.sl e n f)::s.t) i) _
 rw[Gr]
 by_cases e1:d=i
 subst e1
 rw[if_pos rfl]
 have h1:=h.t d
 rw[hd] at h1
 generalize a.tmps.getD d undef=v at h1
 cases h1 with
 |slc _ _ _ _ _ _ _ h2=>exact h2
 rw[if_neg e1];exact h.t i
theorem AcO (keep:List Nat) (s':St) (hs':(⟨keep.map λt=>(t,Bl s.t t),s.h,s.nx,s.n⟩:St)=s') (E:Ap) (a:Act) (hs:Hv B D0 E s a):∃E',E'.w=E.w/\Hv B D0 E' s' a:=⟨E,rfl,by
 rw[<-hs']
 refine⟨hs.size,hs.df,λi=>?_,hs.h,hs.A⟩
 rcases aJ (λt=>Bl s.t t) keep i with e|e
 show VR E (Bl (keep.map λt=>(t,Bl s.t t)) i) _
 rw[e];exact hs.t i
 show VR E (Bl (keep.map λt=>(t,Bl s.t t)) i) _
 rw[e];exact .top _ _⟩
theorem lH (x:Operand) (t:TypeId) (ts:Array TypeId) (ho:o.op= .call { callee:= .builtin .len,args:=#[x],argTypes:=ts }) (ht:ts[0]?=some t) {el:TypeId} (hu:P.underlying t=some (.slice el)) (e n:Nat) (f:Nat->AV) (hx:ev x= .slc e n f):Cw P B D0 o ev pre (.lit (.int .i64 (n:Int))) .none:=by
 refine Bc (.inl rfl) λE a c _ _ hv=>?_
 have h:=hv x (by simp[ho,Op.operands,Call.operands])
 rw[hx] at h
 generalize hy:a.eval x=y at h
 cases h with
 |slc _ _ _ _ A cp hnc _=>
  refine⟨_,?_,.lit _ _⟩
  simp[execOp,ho,resolve,invoke,builtin,hy,Builtin.len_,ht,run_underlying hu,goInt]
noncomputable def bP (p:Prop):Bool:=@decide p (Classical.propDecidable p)
theorem fA {p:Prop} (h:p):bP p=true:=by unfold bP;exact @decide_eq_true p (Classical.propDecidable p) h
theorem Kd {p:Prop} (h:¬p):bP p=false:=by unfold bP;exact @decide_eq_false p (Classical.propDecidable p) h
theorem Ajt {p:Prop} (h:bP p=true):p:=by unfold bP at h;exact @of_decide_eq_true p (Classical.propDecidable p) h
theorem Ahx {p:Prop} (h:bP p=false):¬p:=by unfold bP at h;exact @of_decide_eq_false p (Classical.propDecidable p) h
def Rf (P:Program) (B:Nat) (D0:Ap) (s:St) (rv:ResultVar) (x:AV):Prop:=∀E a,Hv B D0 E s a->∃v,(Ql rv a.tmps).run P E.w= .ok v E.w/\VR E x v
theorem xX {t:Tmp} {x:AV} (h:Bl s.t t=x):Rf P B D0 s (.tmp t) x:=λE a hs=>⟨_,rfl,by rw[<-h];exact hs.t t⟩
theorem lR {q:Tmp} {T:TypeId} {x:AV} (id:Nat) (hT:∀w,(isAgg T).run P w= .ok false w) (off:Nat) (cs:List AV) (h:Bl s.t q= .ptr id off) (t:TypeId) (hb:Ak s.h id=some (.box t cs)) (hl:off<cs.length) (hx:cs.getD off .top=x):Rf P B D0 s (.cell q T) x:=λE a hs=>by
 have h1:=hs.t q
 rw[h] at h1
 obtain⟨arr,h2,h3⟩:=hs.h.box hb
 generalize hy:a.tmps.getD q undef=y at h1
 cases h1 with
 |ptr _ _ _ hA=>
  refine⟨arr.getD off undef,?_,by rw[<-hx];exact h3.2 off⟩
  have h4:=Li (P:=P) (T:=T) E.w (hT _) (Ii h2 (i:=off) (by rw[h3.1];exact hl))
  simp only[Instr.loadAt,Instr.sureAddr,Sem.run_bind,Sem.run_pure,Result.andThen_ok] at h4
  simp[Ql,hy,asAddr,h4]
theorem pS {q:Tmp} {T:TypeId} {x:AV} (id:Nat) (hT:∀w,(isAgg T).run P w= .ok true w) (n:Nat) (hn:∀w,(sizeOf T).run P w= .ok n w) (off:Nat) (cs:List AV) (h:Bl s.t q= .ptr id off) (t:TypeId) (hb:Ak s.h id=some (.box t cs)) (hl:off+n<=cs.length) (hx:mkAgg ((cs.drop off).take n)=x):Rf P B D0 s (.cell q T) x:=λE a hs=>by
 have h1:=hs.t q
 rw[h] at h1
 obtain⟨arr,h2,h3⟩:=hs.h.box hb
 generalize hy:a.tmps.getD q undef=y at h1
 cases h1 with
 |ptr _ _ _ hA=>
  have h5:=h3.drop off n hl
  have h6:=VR.mkAgg h5.1 h5.2
  rw[hx] at h6
  refine⟨_,?_,h6⟩
  have h4:=Mr (P:=P) (T:=T) (hT E.w) (hn E.w) h2 (by rw[h3.1];exact hl)
  simp only[Instr.loadAt,Instr.sureAddr,Sem.run_bind,Sem.run_pure,Result.andThen_ok] at h4
  simp[Ql,hy,asAddr,h4]
theorem xW {fn:Func} (hr:fn.results=#[]):vM P B D0 fn s (.lit (.tuple #[])):=λ_ _ _=>⟨_,results_none hr _ _ _,.lit _ _⟩
theorem AjM {fn:Func} {rv:ResultVar} {x:AV} (hr:fn.results=#[rv]) (h:Rf P B D0 s rv x):vM P B D0 fn s x:=λE a hs=>by
 obtain⟨v,h1,h2⟩:=h E a hs
 exact⟨v,by simp[Hn,hr,h1],h2⟩
theorem AjN {fn:Func} {r1 r2:ResultVar} {x y:AV} (hr:fn.results=#[r1,r2]) (h1:Rf P B D0 s r1 x) (h2:Rf P B D0 s r2 y):vM P B D0 fn s (mkTup [x,y]):=λE a hs=>by
 obtain⟨v1,e1,f1⟩:=h1 E a hs
 obtain⟨v2,e2,f2⟩:=h2 E a hs
 refine⟨.tuple #[v1,v2],by simp[Hn,hr,e1,e2],VR.tupl [x,y] _ rfl (λi hi=>?_) _ rfl⟩
 match i with
 |0=>exact f1
 |1=>exact f2
 |i+2=>simp at hi;omega
theorem AjO {fn:Func} {r1 r2 r3:ResultVar} {x y z:AV} (hr:fn.results=#[r1,r2,r3]) (h1:Rf P B D0 s r1 x) (h2:Rf P B D0 s r2 y) (h3:Rf P B D0 s r3 z):vM P B D0 fn s (mkTup [x,y,z]):=λE a hs=>by
 obtain⟨v1,e1,f1⟩:=h1 E a hs
 obtain⟨v2,e2,f2⟩:=h2 E a hs
 obtain⟨v3,e3,f3⟩:=h3 E a hs
 refine⟨.tuple #[v1,v2,v3],by simp[Hn,hr,e1,e2,e3],VR.tupl [x,y,z] _ rfl (λi hi=>?_) _ rfl⟩
 match i with
 |0=>exact f1
 |1=>exact f2
 |2=>exact f3
 |i+3=>simp at hi;omega
end Go.Proofs.YtbggmndaahbojaaGreat
namespace Go.Proofs.YtbggmndaahbojaaGreat
open Go.RowKit
variable {P:Program} {R:Option Nat} {B:Nat} {D0:Ap} {o:Oper} {ev:Operand->AV} {pre:Nat->Option Ar} {s:St} {Q:Exit->St->Prop}
def AV.wk:AV->AV
 | .slc e n f=> .sl e n f
 |x=>x
theorem VR.wk {E:Ap} {x:AV} {v:Value} (h:VR E x v):VR E x.wk v:=by
 cases h with
 |slc _ _ _ _ _ _ _ h=>exact h
 |lit=>exact .lit _ _
 |agg _ l vs hn h=>exact .agg _ _ _ hn h
 |tup _ l vs hn h=>exact .tup _ _ _ hn h
 |sl0=>exact .sl0 _ _ _ _ _
 |sl _ _ _ _ _ _ _ us hn hD hc hr=>exact .sl _ _ _ _ _ _ _ us hn hD hc hr
 |elt _ _ _ _ _ us hD hc hr=>exact .elt _ _ _ _ _ us hD hc hr
 |ptr _ _ _ hA=>exact .ptr _ _ _ hA
 |osl _ _ _ _ hA=>exact .osl _ _ _ _ hA
 |osw _ _ _ _ _ _ _ hA ha=>exact .osw _ _ _ _ _ _ _ hA ha
 |fn _ g l vs hn h=>exact .fn _ _ _ _ hn h
 |yld _ _ hA=>exact .yld _ _ hA
 |top=>exact .top _ _
theorem Cw.wk {V:AV} {f:Ba} (h:Cw P B D0 o (λx=>(ev x).wk) pre V f):Cw P B D0 o ev pre V f:=⟨λE a c K Q h1 h2 h3 h4 hv k=>h.h E a c K Q h1 h2 h3 h4 (λx hx=>(hv x hx).wk) k⟩
theorem sC {E:Ap} {a:Act} (hs:Hv B D0 E s a) {id:Nat} {blk:Ar} (hc:Ak s.h id=some blk):Hv B D0 (E.fr id) ⟨s.t,Hx s.h id,s.nx,s.n⟩ a:=by
 have hh:=hs.h
 obtain⟨j1,j2,j3,j4⟩:=hh.live id _ hc
 refine⟨hs.size,hs.df.up (E.le_fr id).D (E.le_fr id).blk,λi=>(hs.t i).up (E.le_fr id),⟨λk x hx=>?_,λi j x y hx hy hne=>?_,λb hb=>?_,hh.abd,hh.le0.trans (E.le_fr id),λb hb=>?_,hh.B⟩,hs.A⟩
 rw[Ft] at hx
 by_cases e:id=k
 rw[if_pos e] at hx;cases hx
 rw[if_neg e] at hx
 obtain⟨l1,l2,l3,l4⟩:=hh.live k x hx
 refine⟨l1,l2.up (E.le_fr id) rfl,λhd=>?_,l4⟩
 rcases hd with hd|hd
 exact l3 hd
 exact hh.inj k id x _ hx hc (λe2=>e e2.symm) hd
 rw[Ft] at hx hy
 by_cases e:id=i
 rw[if_pos e] at hx;cases hx
 rw[if_neg e] at hx
 by_cases e2:id=j
 rw[if_pos e2] at hy;cases hy
 rw[if_neg e2] at hy
 exact hh.inj i j x y hx hy hne
 rcases hb with hb|hb
 exact hh.bnd b hb
 rw[hb];exact j2.lt
 rcases hb with hb|hb
 exact hh.new b hb
 rw[hb];exact .inr j4
theorem sB {E:Ap} {c:Nat->Option Ar} (hh:HR B D0 E c) {id e n:Nat} {t:TypeId} {f:Nat->AV} (hc:c id=some (.vec t e n f)) (hf:∀i,i<n->∀j,j<e->((f i).cell j).flat=true) {v:Value} (hv:VR E (.osl id e n) v):VR (E.fr id) (.sl e n f) v:=by
 obtain⟨arr,hb,hn,hcp,hr⟩:=hh.vec hc
 cases hv with
 |osl _ _ _ _ hA=>
  by_cases hm:n=0
  subst hm;exact .sl0 _ _ _ _ _
  refine .sl _ _ _ _ _ _ _ (λi j=>arr.getD (i*e+j) undef) ω (.inr rfl) (λi j hi hj=>?_) λi j hi hj=>?_
  have hlt:i*e+j<n*e:=by
   have:=Nat.mul_le_mul_right e (show i+1<=n by omega)
   rw[Nat.succ_mul] at this;omega
  rw[Nat.zero_add]
  exact Ii hb ω
  exact((hr i j ω hj).flat (hf i ω j hj)).up (E.le_fr id).fz
theorem aK:∀(ds:List Nat) (x:AV) (t:Fd) (i:Nat),(Bl (ds.map (λd=>(d,x))++t) i=x/\i∈ds)\/Bl (ds.map (λd=>(d,x))++t) i=Bl t i
 |[],_,_,_=> .inr rfl
 |d::ds,x,t,i=>by
  rw[List.map_cons,List.cons_append,Gr]
  by_cases h:d=i
  subst h;rw[if_pos rfl];exact .inl ⟨rfl,List.mem_cons_self⟩
  rw[if_neg h]
  rcases aK ds x t i with⟨h1,h2⟩|h1
  exact .inl ⟨h1,List.mem_cons_of_mem _ h2⟩
  exact .inr h1
theorem kH (id:Nat) (ds:List Nat) (t:TypeId) (e n:Nat) (f:Nat->AV) (hd:ds.map (Bl s.t)=ds.map λ_=> .osl id e n) (hc:Ak s.h id=some (.vec t e n f)) (hf:∀i,i<n->∀j,j<e->((f i).cell j).flat=true) (E:Ap) (a:Act) (hs:Hv B D0 E s a):∃E',E'.w=E.w/\Hv B D0 E' ⟨ds.map (λd=>(d,.sl e n f))++s.t,Hx s.h id,s.nx,s.n⟩ a:=by
 refine⟨E.fr id,rfl,?_⟩
 have k:=sC hs hc
 refine⟨k.size,k.df,λi=>?_,k.h,k.A⟩
 show VR (E.fr id) (Bl (ds.map (λd=>(d,AV.sl e n f))++s.t) i) _
 rcases aK ds (.sl e n f) s.t i with⟨h1,h2⟩|h1
 rw[h1]
 have h3:Bl s.t i= .osl id e n:=List.map_eq_map_iff.1 hd i h2
 have h4:=hs.t i
 rw[h3] at h4
 exact sB hs.h hc hf h4
 rw[h1];exact k.t i
theorem AbT {E:Ap} {c:Nat->Option Ar} (hh:HR B D0 E c) {id e n:Nat} {t:TypeId} {f:Nat->AV} (hc:c id=some (.vec t e n f)) (hf:∀i,i<n->∀j,j<e->((f i).cell j).flat=true) {v:Value} (hv:VR E (.osl id e n) v):VR (E.fr id) (.slc e n f) v:=by
 have h1:=sB hh hc hf hv
 obtain⟨arr,hb,hn,hcp,hr⟩:=hh.vec hc
 cases hv with
 |osl _ _ _ _ hA=>exact .slc _ _ _ _ _ _ hcp.2.1 h1
end Go.Proofs.YtbggmndaahbojaaGreat
namespace Go.Proofs.YtbggmndaahbojaaGreat
open Go.RowKit
def AFN (P:Program) (f:FuncId) (t:TypeId) (us us':List Value) (args:List AV) (r:Value):Prop:=
 ∀(E:Ap) (vs:Array Value) (b:Nat),(∀k,E.D k->k<E.w.heap.size)->¬E.D b->E.w.heap[b]?=some (.cells us.toArray t (0,0))->vs.size=args.length+1->vs.getD 0 undef= .pointer (some ⟨b,0,none⟩)->(∀i,i<args.length->VR E.fz (args.getD i .top) (vs.getD (i+1) undef))->
  Calls P f vs E.w λe w'=>e= .returned r/\w'.heap[b]?=some (.cells us'.toArray t (0,0))/\(∀k,k≠b->k<E.w.heap.size->w'.heap[k]?=E.w.heap[k]?)/\Below 0 E.w w'
abbrev AFM (P:Program) (f:FuncId) (t:TypeId) (us:List Value) (args:List AV) (r:Value):Prop:=AFN P f t us us args r
theorem Ahl {f:FuncId} {fn:Func} {c:Code} {t:TypeId} {us us':List Value} {args:List AV} {r:Value} (s0:St) (hf:Tryz.prog.funcs[f]?=some fn) (hc:fn.body=some c) (n:Nat) (hn:fn.ntmps=n) (hle:Nat.ble (args.length+1) n=true) (hs:(⟨Da (.ptr 0 0::args) 0,[(0,.box t (us.map .lit))],1,n⟩:St)=s0)
  (h:∀B D0,(∀id,D0.A id->id<1)->AC Tryz.prog none B D0 c s0 (λe s=>(e= .ret\/e= .normal)/\Nl Tryz.prog B D0 fn s (.lit r)/\Ak s.h 0=some (.box t (us'.map .lit)))):AFN Tryz.prog f t us us' args r:=by
 subst hs
 subst hn
 intro E vs b hD hb hu hsz hv0 hv
 have hle':args.length+1<=fn.ntmps:=by simpa using hle
 have hblt:b<E.w.heap.size:=(Ξ hu).1
 obtain⟨D0,hD0⟩:∃D0:Ap,D0={ π:=λ_=>b,cap:=λ_=>0,A:=λid=>id=0,D:=λk=>k<E.w.heap.size/\k≠b,w:=E.w }:=⟨_,rfl⟩
 have dA:∀id,D0.A id↔id=0:=λid=>by rw[hD0]
 have dD:∀k,D0.D k↔k<E.w.heap.size/\k≠b:=λid=>by rw[hD0]
 have dw:D0.w=E.w:=by rw[hD0]
 have dp:∀id,D0.π id=b:=λid=>by rw[hD0]
 have hbr:BR D0 (.box t (us.map .lit)) b (D0.cap 0):=by
  refine .box _ _ _ _ us.toArray (by rw[dw];exact hu) (by simp) λi hi=>?_
  have h2:i<us.length:=by simpa using hi
  have e1:(us.map AV.lit).getD i .top= .lit (us.toArray.getD i undef):=by simp[h2]
  rw[e1];exact .lit _ _
 have hsim:Hv b D0 D0 ⟨Da (.ptr 0 0::args) 0,[(0,.box t (us.map .lit))],1,fn.ntmps⟩ { tmps:=vs++Array.replicate (fn.ntmps-vs.size) undef,defers:=[] }:=by
  refine⟨by simp[hsz];omega,Nk.nil _ _ _,λi=>?_,⟨λid x hx=>?_,λi j x y hx hy hne=>?_,λk hk=>by rw[dw];exact((dD k).1 hk).1,λid hi=>by rw[dp,dw];exact hblt,Ap.le.refl _,λ_ h=> .inl h,by rw[dw];omega⟩,λid hi=>by have:=(dA id).1 hi;show id<1;omega⟩
  have e0:=Lv (.ptr 0 0::args) 0 i
  rw[Nat.zero_add] at e0
  show VR D0 (Bl (Da (.ptr 0 0::args) 0) i) _
  rw[e0]
  by_cases hi:i<args.length+1
  have h2:(vs++Array.replicate (fn.ntmps-vs.size) undef).getD i undef=vs.getD i undef:=by
   simp only[Array.getD_eq_getD_getElem?,Array.getElem?_append_left (show i<vs.size by omega)]
  rw[h2]
  cases i with
  |zero=>
   rw[hv0]
   have:=VR.ptr D0 0 0 ((dA 0).2 rfl)
   rw[dp] at this
   exact this
  |succ i=>
   have h3:=hv i ω
   have hl:E.fz.le D0:=Ap.fz_le_of (λk hk=>(dD k).2 ⟨hD k hk,λe=>hb (e▸hk)⟩) λk _=>by rw[dw]
   exact h3.up hl
  have:(AV.ptr 0 0::args).getD i .top= .top:=by rw[Γ,List.getElem?_eq_none (by simp;omega)];rfl
  rw[this]
  exact .top _ _
  have hx2:(if 0=id then some (Ar.box t (us.map .lit)) else none)=some x:=hx
  by_cases e:0=id
  rw[if_pos e] at hx2
  cases hx2
  subst e
  refine⟨(dA 0).2 rfl,by rw[dp];exact hbr,λhk=>?_,by rw[dp];exact Nat.le_refl _⟩
  rw[dp] at hk
  exact((dD b).1 hk).2 rfl
  rw[if_neg e] at hx2;cases hx2
  have hx2:(if 0=i then some (Ar.box t (us.map .lit)) else none)=some x:=hx
  have hy2:(if 0=j then some (Ar.box t (us.map .lit)) else none)=some y:=hy
  by_cases e:0=i
  by_cases e2:0=j
  omega
  rw[if_neg e2] at hy2;cases hy2
  rw[if_neg e] at hx2;cases hx2
 have hrun:=(h b D0 (λid hi=>by have:=(dA id).1 hi;omega)).run D0 _ hsim
 rw[dw] at hrun
 refine Mh hf hc (wpIn_wide.1 (Cq ?_ hrun))
 rintro e a' w' ⟨s',E',rfl,⟨he,hr,hk⟩,hs,hbl⟩
 obtain⟨ms,m1,m2,m3⟩:=hs.df
 have fin:bodyPostM Fence.wide 0 Tryz.prog fn (λe w'=>e= .returned r/\w'.heap[b]?=some (.cells us'.toArray t (0,0))/\(∀k,k≠b->k<E.w.heap.size->w'.heap[k]?=E.w.heap[k]?)/\Below 0 E.w w') .ret a' E'.w:=by
  refine Qz ms m1 m2 (λm hm=>(m3 m hm).2.2.2) λW hk2 hz=>?_
  obtain⟨k1,k2⟩:=hs.unmark m3 hk2 hz
  obtain⟨v,hv,hrv⟩:=hr _ _ k1
  have hp:E'.π 0=b:=by rw[hs.h.le0.π 0 ((dA 0).2 rfl),dp]
  obtain⟨arr,ha1,ha2⟩:=k1.h.box hk
  have ha3:W.heap[b]?=some (.cells arr t (0,0)):=by rw[<-hp];exact ha1
  have ha4:arr=us'.toArray:=VR.lits (E:={ E' with w:=W }) (by have:=ha2.1;simpa using this) ha2.2
  have hl:=k1.h.le0
  refine⟨v,hv,⟨by rw[hrv.lit_inv],by rw[ha3,ha4],λk hkb hkl=>?_,?_⟩⟩
  have:=hl.blk k ((dD k).2 ⟨hkl,hkb⟩)
  rw[dw] at this
  exact this
  exact(hbl.trans k2).mono Ω
 rcases he with rfl|rfl
 exact fin
 exact fin
variable {P:Program} {R:Option Nat} {B:Nat} {D0:Ap} {s:St} {Q:Exit->St->Prop} {o:Oper} {ev:Operand->AV} {pre:Nat->Option Ar}
theorem xL (f:FuncId) (xs:Array Operand) (ts:Array TypeId) (ho:o.op= .call { callee:= .value (.func f),args:=xs,argTypes:=ts }) (hcall:∀(vs:Array Value) w,(callFunc f vs).run P w= .ok (.enter f vs) w) (id:Nat) (t:TypeId) (us us':List Value) (hp:pre id=some (.box t (us.map .lit))) (args:List AV) (hargs:xs.toList.map ev= .ptr id 0::args) (hfree:args.all AV.free=true) (r:Value) (hf:AFN P f t us us' args r):Cw P B D0 o ev pre (.lit r) (.set id (.box t (us'.map .lit))):=by
 refine⟨?_⟩
 intro E a c K Q _ hh htch _ hv k
 have hc:=(htch id (by simp[Ba.touch])).trans hp
 obtain⟨arr,ha1,ha2⟩:=hh.box hc
 have ha4:arr=us.toArray:=VR.lits (E:=E) (by have:=ha2.1;simpa using this) ha2.2
 subst ha4
 obtain⟨l1,l2,l3,l4⟩:=hh.live id _ hc
 have hn:xs.size=args.length+1:=by have:=congrArg List.length hargs;simpa using this
 have hat:∀i (hi:i<xs.size),VR E ((AV.ptr id 0::args).getD i .top) (a.eval xs[i]):=λi hi=>by
  rw[<-hargs]
  have e1:(xs.toList.map ev).getD i .top=ev xs[i]:=by simp[hi]
  rw[e1]
  exact hv _ (by simp[ho,Op.operands,Call.operands])
 unfold Oper.wp
 rw[show (execOp a.eval o).run P E.w=(callFunc f (xs.map a.eval)).run P E.w by simp[execOp,ho,resolve,Deferred.ofValue,Act.eval,invoke],hcall]
 show Calls P f _ E.w _
 refine(hf E (xs.map a.eval) (E.π id) hh.bnd l3 ha1 (by simp[hn]) ?_ λi hi=>?_).mono ?_
 have h0:=hat 0 ω
 have e2:(xs.map a.eval).getD 0 undef=a.eval xs[0]:=by simp[show 0<xs.size by omega]
 rw[e2]
 generalize a.eval xs[0]=y at h0
 have h1:VR E (.ptr id 0) y:=h0
 cases h1;rfl
 have h0:=hat (i+1) ω
 have e2:(xs.map a.eval).getD (i+1) undef=a.eval xs[i+1]:=by simp[show i+1<xs.size by omega]
 rw[e2]
 have h1:VR E (args.getD i .top) (a.eval xs[i+1]):=h0
 refine h1.free ?_
 have:=List.all_eq_true.1 hfree _ (List.getElem_mem (l:=args) hi)
 simpa [Γ,hi] using this
 rintro e w' ⟨rfl,hb1,hb2,hb3⟩
 have hle:E.le { E with w:=w' }:=⟨λ_ h=>h,λ_ _=>rfl,λ_ h=>h,λb hb'=>hb2 b (λe=>l3 (e▸hb')) (hh.bnd b hb'),λ_ _=>rfl⟩
 refine k r { E with w:=w' } hle ⟨hb3.os,hb3.tape,hb3.output,hb3.size,λb hb'=>hb2 b ω (by have:=hh.B;omega)⟩ (.lit _ _) ⟨λi x hx=>?_,λi j x y hx hy hne=>?_,λb hb'=>Nat.lt_of_lt_of_le (hh.bnd b hb') hb3.size,λi hi=>Nat.lt_of_lt_of_le (hh.abd i hi) hb3.size,hh.le0.trans hle,hh.new,Nat.le_trans hh.B hb3.size⟩ λi hi=> .inl hi
 have hx2:(if id=i then some (Ar.box t (us'.map .lit)) else c i)=some x:=hx
 by_cases e1:id=i
 subst e1
 rw[if_pos rfl] at hx2
 cases hx2
 refine⟨l1,.box _ _ _ _ us'.toArray hb1 (by simp) λq hq=>?_,l3,l4⟩
 have h2:q<us'.length:=by simpa using hq
 have e3:(us'.map AV.lit).getD q .top= .lit (us'.toArray.getD q undef):=by simp[h2]
 rw[e3];exact .lit _ _
 rw[if_neg e1] at hx2
 obtain⟨j1,j2,j3,j4⟩:=hh.live i x hx2
 exact⟨j1,j2.up hle (hb2 _ (hh.inj i id x _ hx2 hc (λe=>e1 e.symm)) j2.lt),j3,j4⟩
 have real:∀q z,(if id=q then some (Ar.box t (us'.map .lit)) else c q)=some z->∃z',c q=some z':=λq z hz=>by
  by_cases e:id=q
  subst e;exact⟨_,hc⟩
  rw[if_neg e] at hz;exact⟨z,hz⟩
 obtain⟨x',hx'⟩:=real i x hx
 obtain⟨y',hy'⟩:=real j y hy
 exact hh.inj i j x' y' hx' hy' hne
theorem Iq (f:FuncId) (xs:Array Operand) (ts:Array TypeId) (ho:o.op= .call { callee:= .value (.func f),args:=xs,argTypes:=ts }) (hcall:∀(vs:Array Value) w,(callFunc f vs).run P w= .ok (.enter f vs) w) (id:Nat) (t:TypeId) (us:List Value) (hp:pre id=some (.box t (us.map .lit))) (args:List AV) (hargs:xs.toList.map ev= .ptr id 0::args) (hfree:args.all AV.free=true) (r:Value) (hf:AFM P f t us args r):Cw P B D0 o ev pre (.lit r) (.set id (.box t (us.map .lit))):=xL f xs ts ho hcall id t us us hp args hargs hfree r hf
theorem Nb (T:TypeId) (x y:Operand) (ho:o.op= .slice T x none (some y) none) {el:TypeId} (hu:P.underlying T=some (.slice el)) (e n:Nat) (hsz:∀w,(sizeOf el).run P w= .ok e w) (f:Nat->AV) (hx:ev x= .slc e n f) (h:Nat) (k:Int) (hk:ev y= .int k) (hkh:k=(h:Int)) (h2:h<=n):
  Cw P B D0 o ev pre (.slc e h f) .none:=by
 subst hkh
 refine Bc (.inl rfl) λE a c _ _ hv=>?_
 have hvx:=hv x (by simp[ho,Op.operands])
 rw[hx] at hvx
 have e2:=hv y (by simp[ho,Op.operands])
 rw[hk] at e2
 have e2:=e2.lit_inv
 generalize hz:a.eval x=z at hvx
 cases hvx with
 |slc _ _ _ _ A0 cp hnc hv0=>
  have hA:(if cp=0 then A0 else A0.map (·.add (0*e)))=A0:=by
   split
   rfl
   cases A0 with
   |none=>rfl
   |some b=>rw[Nat.zero_mul];rfl
  refine⟨.slice A0 h cp,?_,.slc _ _ _ _ _ _ ω ?_⟩
  have:(execOp a.eval o).run P E.w= .ok (.value (.slice (if cp=0 then A0 else A0.map (·.add (0*e))) h cp)) E.w:=by
   simp[execOp,ho,hz,e2,Instr.sliceAt,run_underlying hu,Instr.slice,Instr.sliceBounds,Instr.sliceBound,asIntOf,hsz,show h<=cp by omega]
  rw[hA] at this
  exact this
  cases hv0 with
  |sl0=>
   obtain rfl:h=0:=by omega
   exact .sl0 _ _ _ _ _
  |sl _ _ _ _ b q _ us hn hD hc hr=>
   by_cases h0:h=0
   subst h0;exact .sl0 _ _ _ _ _
   exact .sl _ _ _ _ _ _ _ us ω hD (λi j hi hj=>hc i j ω hj) λi j hi hj=>hr i j ω hj
theorem fU (id:Nat) (ds:List Nat) (t:TypeId) (e n:Nat) (f:Nat->AV) (hd:ds.map (Bl s.t)=ds.map λ_=> .osl id e n) (hc:Ak s.h id=some (.vec t e n f)) (hf:∀i,i<n->∀j,j<e->((f i).cell j).flat=true) (E:Ap) (a:Act) (hs:Hv B D0 E s a):∃E',E'.w=E.w/\Hv B D0 E' ⟨ds.map (λd=>(d,.slc e n f))++s.t,Hx s.h id,s.nx,s.n⟩ a:=by
 refine⟨E.fr id,rfl,?_⟩
 have k:=sC hs hc
 refine⟨k.size,k.df,λi=>?_,k.h,k.A⟩
 show VR (E.fr id) (Bl (ds.map (λd=>(d,AV.slc e n f))++s.t) i) _
 rcases aK ds (.slc e n f) s.t i with⟨h1,h2⟩|h1
 rw[h1]
 have h3:Bl s.t i= .osl id e n:=List.map_eq_map_iff.1 hd i h2
 have h4:=hs.t i
 rw[h3] at h4
 exact AbT hs.h hc hf h4
 rw[h1];exact k.t i
theorem Aed (id:Nat) (t:TypeId) (e n:Nat) (f g:Nat->AV) (hc:Ak s.h id=some (.vec t e n f)) (hfg:∀i,i<n->f i=g i) (E:Ap) (a:Act) (hs:Hv B D0 E s a):∃E',E'.w=E.w/\Hv B D0 E' ⟨s.t,hset s.h id (.vec t e n g),s.nx,s.n⟩ a:=⟨E,rfl,by
 refine⟨hs.size,hs.df,hs.t,⟨λi x hx=>?_,λi j x y hx hy hne=>?_,hs.h.bnd,hs.h.abd,hs.h.le0,hs.h.new,hs.h.B⟩,hs.A⟩
 rw[show Ak (hset s.h id (.vec t e n g)) i=if id=i then some (.vec t e n g) else Ak s.h i from Dw _ _ _ _] at hx
 by_cases e1:id=i
 subst e1
 rw[if_pos rfl] at hx
 cases hx
 obtain⟨l1,l2,l3,l4⟩:=hs.h.live id _ hc
 refine⟨l1,?_,l3,l4⟩
 cases l2 with
 |vec _ _ _ _ b cap arr h1 hn hc2 hm hr=>exact .vec _ _ _ _ _ _ arr h1 hn hc2 hm λi j hi hj=>by rw[<-hfg i hi];exact hr i j hi hj
 rw[if_neg e1] at hx;exact hs.h.live i x hx
 have real:∀q z,Ak (hset s.h id (.vec t e n g)) q=some z->∃z',Ak s.h q=some z':=λq z hz=>by
  rw[show Ak (hset s.h id (.vec t e n g)) q=if id=q then some (.vec t e n g) else Ak s.h q from Dw _ _ _ _] at hz
  by_cases e:id=q
  subst e;exact⟨_,hc⟩
  rw[if_neg e] at hz;exact⟨z,hz⟩
 obtain⟨x',hx'⟩:=real i x hx
 obtain⟨y',hy'⟩:=real j y hy
 exact hs.h.inj i j x' y' hx' hy' hne⟩
end Go.Proofs.YtbggmndaahbojaaGreat
namespace Go.Proofs.YtbggmndaahbojaaGreat
open Go.RowKit
variable {P:Program} {R:Option Nat} {B:Nat} {D0:Ap} {o:Oper} {ev:Operand->AV} {pre:Nat->Option Ar} {s:St} {Q:Exit->St->Prop}
theorem Bo {V V0:AV} {f f0:Ba} (h:Cw P B D0 o ev pre V0 f0) (hV:V0=V:=by kernel_rfl) (hf:f0=f:=by kernel_rfl):Cw P B D0 o ev pre V f:=h.cast hV hf
end Go.Proofs.YtbggmndaahbojaaGreat
namespace Go.Proofs.YtbggmndaahbojaaGreat
open Go.RowKit
variable {P:Program} {R:Option Nat} {B:Nat} {D0:Ap} {o:Oper} {ev:Operand->AV} {pre:Nat->Option Ar} {s:St} {Q:Exit->St->Prop}
def Vy (P:Program) (T:TypeId):Option Bool:=(P.underlying T).map λ| .struct _=>true| .array _ _=>true|_=>false
def Hz (P:Program) (T:TypeId):Option Nat:=(P.info? T).map (·.size)
def Vf (P:Program) (T:TypeId):Option Value:=(P.info? T).bind (·.zero)
theorem Fe {T:TypeId} {b:Bool} (h:Vy P T=some b):∀w,(isAgg T).run P w= .ok b w:=λw=>by
 unfold Vy at h
 cases hu:P.underlying T with
 |none=>rw[hu] at h;cases h
 |some d=>
  rw[hu] at h
  unfold isAgg
  rw[Sem.run_bind,run_underlying hu w]
  cases d<;>cases h<;>rfl
theorem Ce {T:TypeId} {n:Nat} (h:Hz P T=some n):∀w,(sizeOf T).run P w= .ok n w:=λw=>by
 unfold Hz at h
 cases hu:P.info? T with
 |none=>rw[hu] at h;cases h
 |some d=>rw[hu] at h;cases h;simp[sizeOf,typeInfo,hu]
theorem Oz {T:TypeId} {z:Value} (h:Vf P T=some z):∀w,(zeroValue T).run P w= .ok z w:=λw=>by
 unfold Vf at h
 cases hu:P.info? T with
 |none=>rw[hu] at h;cases h
 |some d=>rw[hu] at h;have h:d.zero=some z:=h;simp[zeroValue,typeInfo,hu,h]
def fQ (P:Program) (T:TypeId) (k:Nat):Option (Nat×Nat):=
 match P.underlying T with
 |some (.struct fs)=>match fs[k]? with
  |some f=>match Hz P f.type with
   |some (n+1)=>some (f.offset,n+1)
   |_=>none
  |none=>none
 |_=>none
theorem fR {T:TypeId} {k d m:Nat} (h:fQ P T k=some (d,m)):∃fields f,P.underlying T=some (.struct fields)/\fields[k]?=some f/\(∀w,∃n,(sizeOf f.type).run P w= .ok (n+1) w)/\f.offset=d:=by
 unfold fQ at h
 split at h
 rename_i fs hu
 split at h
 rename_i f hf
 split at h
 rename_i n hn
 cases h
 exact⟨fs,f,hu,hf,λw=>⟨n,Ce hn w⟩,rfl⟩
 cases h
 cases h
 cases h
def fN (P:Program) (T:TypeId) (pre:Nat->Option Ar) (id off:Nat):Option (AV×Ba):=
 match pre id with
 |some (.box _ cs)=>match Vy P T with
  |some false=>bif Nat.blt off cs.length then some (cs.getD off .top,.read id) else none
  |some true=>match Hz P T with
   |some n=>bif Nat.ble (off+n) cs.length then some (mkAgg ((cs.drop off).take n),.read id) else none
   |none=>none
  |none=>none
 |_=>none
def fM (P:Program) (T:TypeId) (n:Nat) (g:Nat->AV):Option (AV×Ba):=
 match Vy P T with
 |some false=>match n with
  |_+1=>some (g 0,.none)
  |0=>none
 |some true=>match Hz P T with
  |some k=>bif Nat.ble k n then some (mkAgg ((List.range k).map g),.none) else none
  |none=>none
 |none=>none
def fO (P:Program) (T:TypeId) (pre:Nat->Option Ar) (id off:Nat) (y:AV):Option (AV×Ba):=
 match pre id with
 |some (.box t cs)=>match Hz P T with
  |some n=>bif y.notTop&&Nat.beq y.cells.length n&&Nat.ble (off+n) cs.length&&y.cells.all AV.one1 then some (.undef,.set id (.box t (putL cs off y.cells))) else none
  |none=>none
 |_=>none
def fL (P:Program) (T:TypeId) (k:Nat) (x:AV):Option (AV×Ba):=
 match fQ P T k with
 |some (d,m)=>match x with
  | .ptr id off=>some (.ptr id (off+d),.none)
  | .elt n g=>bif Nat.ble (d+m) n then some (.elt m λi=>g (d+i),.none) else none
  |_=>none
 |none=>none
def AbN (P:Program) (o:Oper) (ev:Operand->AV) (pre:Nat->Option Ar) (nid:Nat):Option (AV×Ba):=
 match o.op with
 | .move x=>some (ev x,.none)
 | .assign x=>some (ev x,.none)
 | .fieldAddr T x k=>fL P T k (ev x)
 | .load T x=>match ev x with
  | .ptr id off=>fN P T pre id off
  | .elt n g=>fM P T n g
  |_=>none
 | .store T x y=>match ev x with
  | .ptr id off=>fO P T pre id off (ev y)
  |_=>none
 | .nilCheck x=>bif (ev x).isPtr then some (ev x,.none) else none
 | .pick c x y=>match ev c with
  | .lit (.bool true)=>some (ev x,.none)
  | .lit (.bool false)=>some (ev y,.none)
  |_=>none
 | .box T x=>bif (ev x).notTop then some (.ptr nid 0,.new nid (.box T (ev x).cells)) else none
 | .extract x k=>match ev x with
  | .tup l=>bif Nat.blt k l.length then some (l.getD k .top,.none) else none
  | .lit (.tuple a)=>match a[k]? with
   |some v=>some (.lit v,.none)
   |none=>none
  |_=>none
 | .alloc T=>match Vf P T with
  |some z=>some (.ptr nid 0,.new nid (.box T (z.cells.toList.map .lit)))
  |none=>none
 |_=>none
theorem oK {T:TypeId} {x:Operand} {k:Nat} {V:AV} {f:Ba} (ho:o.op= .fieldAddr T x k) (h:fL P T k (ev x)=some (V,f)):Cw P B D0 o ev pre V f:=by
 unfold fL at h
 split at h
 rename_i d m hf
 obtain⟨fields,fl,h1,h2,h3,h4⟩:=fR hf
 split at h
 rename_i id off hx
 cases h
 exact Zn T x k ho h1 h2 h3 d h4 id off hx
 rename_i n g hx
 cases hb:Nat.ble (d+m) n with
 |false=>rw[hb] at h;cases h
 |true=>rw[hb] at h;cases h;exact Zm T x k ho h1 h2 h3 d h4 n m g hx (Nat.le_of_ble_eq_true hb)
 cases h
 cases h
theorem oN {T:TypeId} {x:Operand} {id off:Nat} {V:AV} {f:Ba} (ho:o.op= .load T x) (hx:ev x= .ptr id off) (h:fN P T pre id off=some (V,f)):Cw P B D0 o ev pre V f:=by
 unfold fN at h
 split at h
 rename_i t cs hp
 split at h
 rename_i ha
 cases hb:Nat.blt off cs.length with
 |false=>rw[hb] at h;cases h
 |true=>rw[hb] at h;cases h;exact bJ T x ho (Fe ha) id off hx t cs hp (by simpa [Nat.blt_eq] using hb)
 rename_i ha
 split at h
 rename_i n hn
 cases hb:Nat.ble (off+n) cs.length with
 |false=>rw[hb] at h;cases h
 |true=>rw[hb] at h;cases h;exact gQ T x ho (Fe ha) n (Ce hn) id off hx t cs hp (Nat.le_of_ble_eq_true hb)
 cases h
 cases h
 cases h
theorem oM {T:TypeId} {x:Operand} {n:Nat} {g:Nat->AV} {V:AV} {f:Ba} (ho:o.op= .load T x) (hx:ev x= .elt n g) (h:fM P T n g=some (V,f)):Cw P B D0 o ev pre V f:=by
 unfold fM at h
 split at h
 rename_i ha
 split at h
 cases h;exact bK T x ho (Fe ha) _ g hx
 cases h
 rename_i ha
 split at h
 rename_i k hk
 cases hb:Nat.ble k n with
 |false=>rw[hb] at h;cases h
 |true=>rw[hb] at h;cases h;exact gR T x ho (Fe ha) k (Ce hk) n g hx (Nat.le_of_ble_eq_true hb)
 cases h
 cases h
theorem oO {T:TypeId} {x y:Operand} {id off:Nat} {V:AV} {f:Ba} (ho:o.op= .store T x y) (hx:ev x= .ptr id off) (h:fO P T pre id off (ev y)=some (V,f)):Cw P B D0 o ev pre V f:=by
 unfold fO at h
 split at h
 rename_i t cs hp
 split at h
 rename_i n hn
 cases hb:(ev y).notTop&&Nat.beq (ev y).cells.length n&&Nat.ble (off+n) cs.length&&(ev y).cells.all AV.one1 with
 |false=>rw[hb] at h;cases h
 |true=>
  rw[hb] at h;cases h
  simp only[Bool.and_eq_true] at hb
  obtain⟨⟨⟨b1,b2⟩,b3⟩,b4⟩:=hb
  exact bL T x y ho n (Ce hn) id off hx t cs _ _ hp rfl b1 (Nat.eq_of_beq_eq_true b2) (Nat.le_of_ble_eq_true b3) b4 rfl
 cases h
 cases h
theorem Afl {nid:Nat} {V:AV} {f:Ba} (h:AbN P o ev pre nid=some (V,f)):Cw P B D0 o ev pre V f:=by
 unfold AbN at h
 split at h
 rename_i x ho;cases h;exact lI x (.inl ho)
 rename_i x ho;cases h;exact lI x (.inr ho)
 rename_i ho;exact oK ho h
 rename_i ho
 split at h
 rename_i hx;exact oN ho hx h
 rename_i hx;exact oM ho hx h
 cases h
 rename_i ho
 split at h
 rename_i hx;exact oO ho hx h
 cases h
 rename_i x ho
 cases hb:(ev x).isPtr with
 |false=>rw[hb] at h;cases h
 |true=>rw[hb] at h;cases h;exact gU x ho _ rfl hb
 rename_i c x y ho
 split at h
 rename_i hc;cases h;exact pM c x y ho hc
 rename_i hc;cases h;exact pL c x y ho hc
 cases h
 rename_i T x ho
 cases hb:(ev x).notTop with
 |false=>rw[hb] at h;cases h
 |true=>rw[hb] at h;cases h;exact AfO T x ho nid hb _ rfl
 rename_i x k ho
 split at h
 rename_i l hx
 cases hb:Nat.blt k l.length with
 |false=>rw[hb] at h;cases h
 |true=>rw[hb] at h;cases h;exact lF x k ho l hx (by simpa [Nat.blt_eq] using hb)
 rename_i a hx
 split at h
 rename_i v hv
 cases h
 refine Bc (.inl rfl) λE a2 c _ _ hr=>?_
 have h1:=hr x (by simp[ho,Op.operands])
 rw[hx] at h1
 have h2:a2.eval x= .tuple a:=h1.lit_inv
 refine⟨v,?_,.lit _ _⟩
 simp[execOp,Instr.extract,ho,h2,hv]
 cases h
 cases h
 rename_i T ho
 split at h
 rename_i z hz;cases h;exact xI T ho nid z (Oz hz) _ rfl
 cases h
 cases h
def evL (P:Program) (ops:Array Oper):Nat->List Oper->St->Option St
 |0,_,s=>some s
 |_+1,[],_=>none
 |k+1,o::l,s=>match o.guard with
  |none=>match AbN P o s.ev (Ak s.h) s.nx with
   |some (V,f)=>bif f.low s.nx&&Ly o s.n then evL P ops k l ⟨Lc s.t o.dst V,f.ap s.h,f.nx s.nx,s.n⟩ else none
   |none=>none
  |some (j,b)=>match (ops[j]?).bind (·.dst) with
   |some d=>match Bl s.t d with
    | .lit (.bool b')=>match b,b' with
     |true,true|false,false=>match AbN P o s.ev (Ak s.h) s.nx with
      |some (V,f)=>bif f.low s.nx&&Ly o s.n then evL P ops k l ⟨Lc s.t o.dst V,f.ap s.h,f.nx s.nx,s.n⟩ else none
      |none=>none
     |_,_=>bif Ly o s.n then evL P ops k l ⟨Lc s.t o.dst .undef,s.h,s.nx,s.n⟩ else none
    | .lit (.tuple a)=>match a.toList with
     |[]=>bif Ly o s.n then evL P ops k l ⟨Lc s.t o.dst .undef,s.h,s.nx,s.n⟩ else none
     |_=>none
    |_=>none
   |none=>none
end Go.Proofs.YtbggmndaahbojaaGreat
namespace Go.Proofs.YtbggmndaahbojaaGreat
open Go.RowKit
variable {P:Program} {B:Nat} {D0:Ap} {o:Oper} {ev:Operand->AV} {pre:Nat->Option Ar}
def AbJ (P:Program) (t:TypeId) (x:AV):Option (AV×Ba):=
 match P.underlying t with
 |some (.slice _)=>match x with
  | .sl _ n _=>some (.int n,.none)
  | .osl _ _ n=>some (.int n,.none)
  | .osw _ _ _ n=>some (.int n,.none)
  | .slc _ n _=>some (.int n,.none)
  | .lit (.slice none 0 0)=>some (.int 0,.none)
  |_=>none
 |_=>none
def wB (op:BinOp) (a b:Int):Option Bool:=
 match op with
 | .lss=>some (decide (a<b))
 | .leq=>some (decide (a<=b))
 | .gtr=>some (decide (b<a))
 | .geq=>some (decide (b<=a))
 | .eql=>some (decide (a=b))
 | .neq=>some (!decide (a=b))
 |_=>none
def AbC (op:BinOp) (x y:AV):Option (AV×Ba):=
 match x,y with
 | .lit (.int .i64 a),.lit (.int .i64 b)=>(wB op a b).map λr=>(.bool r,.none)
 | .lit (.int .u64 a),.lit (.int .u64 b)=>(wB op a b).map λr=>(.bool r,.none)
 |_,_=>none
def AbL (x:AV):Option (AV×Ba):=
 match x with
 | .lit (.bool b)=>some (.bool (!b),.none)
 |_=>none
def Tu (P:Program):List Field->Option (List (Nat×Nat))
 |[]=>some []
 |f::l=>match Hz P f.type with
  |some n=>(Tu P l).map ((f.offset,n)::·)
  |none=>none
def fK (P:Program) (T:TypeId) (ps:List (Nat×AV)):Option (AV×Ba):=
 match Vf P T with
 |none=>none
 |some z=>match P.underlying T with
  |some (.struct fs)=>match Tu P fs.toList with
   |some pl=>(Rg (λi=>pl.toArray[i]?) (z.cells.toList.map .lit) ps).map λout=>(mkAgg out,.none)
   |none=>none
  |some (.array _ el)=>match Hz P el with
   |some n=>(Rg (λi=>some (i*n,n)) (z.cells.toList.map .lit) ps).map λout=>(mkAgg out,.none)
   |none=>none
  |_=>none
def Yo (P:Program) (T:TypeId) (k:Nat) (x:AV):Option (AV×Ba):=
 match x with
 | .agg l=>match P.underlying T with
  |some (.struct fs)=>match fs[k]? with
   |some f=>match Vy P f.type,Hz P f.type with
    |some true,some n=>bif Nat.ble (f.offset+n) l.length then some (mkAgg ((l.drop f.offset).take n),.none) else none
    |some false,some 1=>bif Nat.ble (f.offset+1) l.length then some (l.getD f.offset .top,.none) else none
    |_,_=>none
   |none=>none
  |_=>none
 |_=>none
def evX (P:Program) (o:Oper) (ev:Operand->AV):Option (AV×Ba):=
 match o.op with
 | .call cl=>match cl.callee with
  | .builtin .len=>match cl.args.toList with
   |[x]=>match cl.argTypes[0]? with
    |some t=>AbJ P t (ev x)
    |none=>none
   |_=>none
  |_=>none
 | .binOp op _ x y _=>AbC op (ev x) (ev y)
 | .unOp .not _ x=>AbL (ev x)
 | .makeFunc (.func g) fs xs=>match fs.toList with
  |[]=>some (.fn g (xs.toList.map ev),.none)
  |_=>none
 | .build T ps=>fK P T (ps.toList.map λp=>(p.1,ev p.2))
 | .field T x k=>Yo P T k (ev x)
 |_=>none
theorem Agi {op:BinOp} {k:IntKind} {a b:Int} {r:Bool} (h:wB op a b=some r) (T:TypeId) (x y:Operand) (w:World):(do eqGuard op T x y (.int k a) (.int k b);binOp op T (.int k a) (.int k b):Sem Value).run P w= .ok (.bool r) w:=by
 cases op<;>simp only[wB,Option.some.injEq,reduceCtorEq] at h
 all_goals
  subst h
  simp[eqGuard,binOp,Op.intCmp]
 all_goals rfl
theorem AbD {op:BinOp} {T T':TypeId} {x y:Operand} {V:AV} {f:Ba} (ho:o.op= .binOp op T x y T') (h:AbC op (ev x) (ev y)=some (V,f)):Cw P B D0 o ev pre V f:=by
 have key:∀{k:IntKind} {a b:Int},ev x= .lit (.int k a)->ev y= .lit (.int k b)->(wB op a b).map (λr=>((AV.bool r,Ba.none):AV×Ba))=some (V,f)->Cw P B D0 o ev pre V f:=by
  intro k a b hx hy h
  cases hr:wB op a b with
  |none=>rw[hr] at h;cases h
  |some r=>
   rw[hr] at h
   cases h
   refine Bc (.inl rfl) λE a' c _ _ hv=>⟨.bool r,?_,.lit _ _⟩
   have h1:=hv x (by simp[ho,Op.operands])
   have h2:=hv y (by simp[ho,Op.operands])
   rw[hx] at h1
   rw[hy] at h2
   have:=Agi (P:=P) (k:=k) hr T x y E.w
   simp only[execOp,ho]
   rw[h1.lit_inv,h2.lit_inv]
   simp only[Sem.run_bind] at this ⊢
   rw[this]
   rfl
 unfold AbC at h
 split at h
 rename_i h1 h2;exact key h1 h2 h
 rename_i h1 h2;exact key h1 h2 h
 cases h
theorem AbM {T:TypeId} {x:Operand} {V:AV} {f:Ba} (ho:o.op= .unOp .not T x) (h:AbL (ev x)=some (V,f)):Cw P B D0 o ev pre V f:=by
 unfold AbL at h
 split at h
 rename_i b hx
 cases h
 refine Bc (.inl rfl) λE a' c _ _ hv=>⟨.bool (!b),?_,.lit _ _⟩
 have h1:=hv x (by simp[ho,Op.operands])
 rw[hx] at h1
 simp only[execOp,ho]
 rw[h1.lit_inv]
 rfl
 cases h
theorem Af3 {t:TypeId} {x:Operand} {ts:Array TypeId} (ho:o.op= .call { callee:= .builtin .len,args:=#[x],argTypes:=ts }) (ht:ts[0]?=some t) {el:TypeId} (hu:P.underlying t=some (.slice el)) (hx:ev x= .lit (.slice none 0 0)):Cw P B D0 o ev pre (.int 0) .none:=by
 classical
 have h:=gP (P:=P) (B:=B) (D0:=D0) (o:=o) (ev:=λy=>if y=x then .sl 0 0 (λ_=> .top) else ev y) (pre:=pre) x t ts ho ht hu 0 (.inl ⟨0,λ_=> .top,by simp⟩)
 refine⟨?_⟩
 intro E a c K Q h1 h2 h3 h4 hv k
 refine h.h E a c K Q h1 h2 h3 h4 (λy hy=>?_) k
 by_cases e:y=x
 subst e
 have:=hv y hy
 rw[hx] at this
 rw[if_pos rfl,this.lit_inv]
 exact .sl0 _ _ _ _ _
 rw[if_neg e];exact hv y hy
theorem AbK {t:TypeId} {x:Operand} {ts:Array TypeId} {V:AV} {f:Ba} (ho:o.op= .call { callee:= .builtin .len,args:=#[x],argTypes:=ts }) (ht:ts[0]?=some t) (h:AbJ P t (ev x)=some (V,f)):Cw P B D0 o ev pre V f:=by
 unfold AbJ at h
 split at h
 rename_i el hu
 split at h
 rename_i hx;cases h;exact gP x t ts ho ht hu _ (.inl ⟨_,_,hx⟩)
 rename_i hx;cases h;exact gP x t ts ho ht hu _ (.inr ⟨_,_,hx⟩)
 rename_i hx;cases h;exact lG x t ts ho ht hu _ _ _ _ hx
 rename_i hx;cases h;exact lH x t ts ho ht hu _ _ _ hx
 rename_i hx;cases h;exact Af3 ho ht hu hx
 cases h
 cases h
theorem Vr:∀(fs:List Field) (pl:List (Nat×Nat)) (w:World),Tu P fs=some pl->Sem.run P (fs.mapM λf=>Prod.mk f.offset<$>sizeOf f.type) w= .ok pl w
 |[],pl,w,h=>by cases h;rfl
 |f::l,pl,w,h=>by
  unfold Tu at h
  split at h
  rename_i n hn
  cases hl:Tu P l with
  |none=>rw[hl] at h;cases h
  |some pl'=>
   rw[hl] at h
   cases h
   have ih:=Vr l pl' w hl
   rw[List.mapM_cons]
   simp only[Sem.run_bind,Sem.run_map,Ce hn w,Result.andThen_ok]
   rw[ih]
   rfl
  cases h
theorem oJ {T:TypeId} {ps:Array (Nat×Operand)} {V:AV} {f:Ba} (ho:o.op= .build T ps) (h:fK P T (ps.toList.map λp=>(p.1,ev p.2))=some (V,f)):Cw P B D0 o ev pre V f:=by
 unfold fK at h
 split at h
 cases h
 rename_i z hz
 split at h
 rename_i fs hu
 split at h
 rename_i pl hpl
 rw[Option.map_eq_some_iff] at h
 obtain⟨out,h1,h2⟩:=h
 cases h2
 refine Ux T ps ho z (Oz hz) hu pl.toArray (λw=>?_) out h1
 have:=Vr fs.toList pl w hpl
 rw[Array.mapM_eq_mapM_toList]
 simp only[Sem.run_map,this]
 rfl
 cases h
 rename_i n el hu
 split at h
 rename_i n hn
 rw[Option.map_eq_some_iff] at h
 obtain⟨out,h1,h2⟩:=h
 cases h2
 exact Wc T ps ho z (Oz hz) hu n (Ce hn) out h1
 cases h
 cases h
theorem kE {T:TypeId} {x:Operand} {k:Nat} {V:AV} {f:Ba} (ho:o.op= .field T x k) (h:Yo P T k (ev x)=some (V,f)):Cw P B D0 o ev pre V f:=by
 unfold Yo at h
 split at h
 rename_i l hx
 split at h
 rename_i fs hu
 split at h
 rename_i fl hf
 split at h
 rename_i n ha hn
 cases hb:Nat.ble (fl.offset+n) l.length with
 |false=>rw[hb] at h;cases h
 |true=>
  rw[hb] at h;cases h
  exact eA T x k ho hu hf _ rfl l hx n true (Fe ha) (Ce hn) (Nat.le_of_ble_eq_true hb) (λh=>by cases h) _ rfl
 rename_i ha hn
 cases hb:Nat.ble (fl.offset+1) l.length with
 |false=>rw[hb] at h;cases h
 |true=>
  rw[hb] at h;cases h
  exact eA T x k ho hu hf _ rfl l hx 1 false (Fe ha) (Ce hn) (Nat.le_of_ble_eq_true hb) (λ_=>rfl) _ rfl
 cases h
 cases h
 cases h
 cases h
theorem AhC {V:AV} {f:Ba} (h:evX P o ev=some (V,f)):Cw P B D0 o ev pre V f:=by
 unfold evX at h
 split at h
 rename_i cl ho
 split at h
 rename_i hc
 split at h
 rename_i x ha
 split at h
 rename_i t ht
 refine AbK (x:=x) (t:=t) (ts:=cl.argTypes) ?_ ht h
 rw[ho]
 obtain⟨c1,c2,c3⟩:=cl
 have:c2=#[x]:=by cases c2;simp_all
 subst this
 rw[show c1= .builtin .len from hc]
 cases h
 cases h
 cases h
 rename_i ho;exact AbD ho h
 rename_i ho;exact AbM ho h
 rename_i g fs xs ho
 split at h
 rename_i hf
 cases h
 have:fs=#[]:=by cases fs;simp_all
 subst this
 exact Ada g xs ho _ rfl
 cases h
 rename_i ho;exact oJ ho h
 rename_i ho;exact kE ho h
 cases h
def evG (P:Program) (o:Oper) (ev:Operand->AV) (pre:Nat->Option Ar) (nid:Nat):Option (AV×Ba):=
 match AbN P o ev pre nid with
 |some x=>some x
 |none=>evX P o ev
theorem Ry {nid:Nat} {V:AV} {f:Ba} (h:evG P o ev pre nid=some (V,f)):Cw P B D0 o ev pre V f:=by
 unfold evG at h
 split at h
 rename_i x hx;cases h;exact Afl hx
 exact AhC h
end Go.Proofs.YtbggmndaahbojaaGreat
namespace Go.Proofs.YtbggmndaahbojaaGreat
open Go.RowKit
variable {P:Program} {B:Nat} {D0:Ap} {o:Oper} {ev:Operand->AV} {pre:Nat->Option Ar}
def AaU (op:BinOp) (k:IntKind) (x y:Int):Option Value:=
 match op with
 | .and=>some (.int k (k.wrap (BitVec.ofInt k.bits x&&& BitVec.ofInt k.bits y).toNat))
 | .or=>some (.int k (k.wrap (BitVec.ofInt k.bits x|||BitVec.ofInt k.bits y).toNat))
 | .xor=>some (.int k (k.wrap (BitVec.ofInt k.bits x^^^BitVec.ofInt k.bits y).toNat))
 | .andNot=>some (.int k (k.wrap (BitVec.ofInt k.bits x&&& ~~~BitVec.ofInt k.bits y).toNat))
 |_=>none
def Yz (op:BinOp) (k:IntKind) (a:Int) (k':IntKind) (b:Int):Option Value:=
 match op with
 | .shl=>bif decide (b<0) then none else some (.int k (k.wrap (a*2^min b.toNat k.bits)))
 | .shr=>bif decide (b<0) then none else some (.int k (a.fdiv (2^min b.toNat k.bits)))
 | .add=>bif decide (k=k') then some (.int k (k.wrap (a+b))) else none
 | .sub=>bif decide (k=k') then some (.int k (k.wrap (a-b))) else none
 | .mul=>bif decide (k=k') then some (.int k (k.wrap (a*b))) else none
 | .quo=>bif decide (k=k') then (bif decide (b=0) then none else some (.int k (k.wrap (a.tdiv b)))) else none
 | .rem=>bif decide (k=k') then (bif decide (b=0) then none else some (.int k (a.tmod b))) else none
 | .lss=>bif decide (k=k') then some (.bool (decide (a<b))) else none
 | .leq=>bif decide (k=k') then some (.bool (decide (a<=b))) else none
 | .gtr=>bif decide (k=k') then some (.bool (decide (b<a))) else none
 | .geq=>bif decide (k=k') then some (.bool (decide (b<=a))) else none
 | .eql=>bif decide (k=k') then some (.bool (decide (a=b))) else none
 | .neq=>bif decide (k=k') then some (.bool (!decide (a=b))) else none
 |op=>bif decide (k=k') then AaU op k a b else none
theorem oZ {op:BinOp} {k k':IntKind} {a b:Int} {v:Value} (h:Yz op k a k' b=some v) (T:TypeId) (x y:Operand) (w:World):(do eqGuard op T x y (.int k a) (.int k' b);binOp op T (.int k a) (.int k' b):Sem Value).run P w= .ok v w:=by
 by_cases e:k=k'
 ·
  subst e
  cases op<;>simp only[Yz,AaU,decide_true,cond_true] at h
  case shl=>by_cases g:b<0<;>simp[g] at h;subst h;simp[eqGuard,binOp,Op.shift,g]
  case shr=>by_cases g:b<0<;>simp[g] at h;subst h;simp[eqGuard,binOp,Op.shift,g]
  case quo=>by_cases g:b=0<;>simp[g] at h;subst h;simp[eqGuard,binOp,Op.intDiv,g]
  case rem=>by_cases g:b=0<;>simp[g] at h;subst h;simp[eqGuard,binOp,Op.intDiv,g]
  all_goals
   obtain rfl:=Option.some.inj h
   first
    |(simp[eqGuard,binOp,Op.intArith,Op.intCmp,Op.intBits];done)
    |(simp[eqGuard,binOp,Op.intCmp];rfl)
 ·
  cases op<;>simp only[Yz,AaU,e,decide_false,cond_false,reduceCtorEq] at h
  case shl=>by_cases g:b<0<;>simp[g] at h;subst h;simp[eqGuard,binOp,Op.shift,g]
  case shr=>by_cases g:b<0<;>simp[g] at h;subst h;simp[eqGuard,binOp,Op.shift,g]
def AbH (o:Oper) (ev:Operand->AV):Option (AV×Ba):=
 match o.op with
 | .binOp op _ x y _=>match ev x,ev y with
  | .lit (.int k a),.lit (.int k' b)=>(Yz op k a k' b).map λv=>(.lit v,.none)
  |_,_=>none
 |_=>none
theorem AbI {V:AV} {f:Ba} (h:AbH o ev=some (V,f)):Cw P B D0 o ev pre V f:=by
 unfold AbH at h
 split at h
 rename_i op T x y T' ho
 split at h
 rename_i k a k' b hx hy
 cases hr:Yz op k a k' b with
 |none=>rw[hr] at h;cases h
 |some v=>
  rw[hr] at h
  cases h
  refine Bc (.inl rfl) λE a' c _ _ hv=>⟨v,?_,.lit _ _⟩
  have h1:=hv x (by simp[ho,Op.operands])
  have h2:=hv y (by simp[ho,Op.operands])
  rw[hx] at h1
  rw[hy] at h2
  have:=oZ (P:=P) hr T x y E.w
  simp only[execOp,ho]
  rw[h1.lit_inv,h2.lit_inv]
  simp only[Sem.run_bind] at this ⊢
  rw[this]
  rfl
 cases h
 cases h
def wY:AV->Nat
 | .sl _ n _=>n
 | .slc _ n _=>n
 | .osl _ _ n=>n
 | .osw _ _ _ n=>n
 |_=>0
def Ax:AV->Nat->AV
 | .sl e _ f,k=> .elt e λq=>(f k).cell q
 | .slc e _ f,k=> .elt e λq=>(f k).cell q
 | .osl id e _,k=> .ptr id (k*e)
 | .osw id e o _,k=> .ptr id ((o+k)*e)
 |_,_=> .top
def Oper.ixX (o:Oper):Operand:=match o.op with| .indexAddr _ x _=>x|_=>default
def Oper.ixY (o:Oper):Operand:=match o.op with| .indexAddr _ _ y=>y|_=>default
def ixB (P:Program) (o:Oper) (x:AV):Bool:=match o.op with
 | .indexAddr T _ _=>match P.underlying T with
  |some (.slice el)=>match Hz P el with
   |some e=>match x with
    | .sl e' _ _=>Nat.beq e e'
    | .slc e' _ _=>Nat.beq e e'
    | .osl _ e' _=>Nat.beq e e'
    | .osw _ e' _ _=>Nat.beq e e'
    |_=>false
   |none=>false
  |_=>false
 |_=>false
theorem sK {o:Oper} {ev:Operand->AV} {pre:Nat->Option Ar} (j:Int) (k:Nat) (hb:ixB P o (ev (Oper.ixX o))=true) (hy:ev (Oper.ixY o)= .int j) (hj:j=(k:Int)) (hk:k<wY (ev (Oper.ixX o))):Cw P B D0 o ev pre (Ax (ev (Oper.ixX o)) k) .none:=by
 unfold ixB at hb
 split at hb
 rename_i T x y ho
 have ex:Oper.ixX o=x:=by unfold Oper.ixX;rw[ho]
 have ey:Oper.ixY o=y:=by unfold Oper.ixY;rw[ho]
 rw[ex] at hb hk ⊢
 rw[ey] at hy
 split at hb
 rename_i el hu
 split at hb
 rename_i e he
 split at hb
 rename_i e' n f hx
 obtain rfl:=Nat.eq_of_beq_eq_true hb
 rw[hx] at hk ⊢
 exact Tq T x y ho hu e n k f j hx hy (Ce he) hj hk
 rename_i e' n f hx
 obtain rfl:=Nat.eq_of_beq_eq_true hb
 rw[hx] at hk ⊢
 exact Cw.wk (Tq T x y ho hu e n k f j (by rw[hx];rfl) (by rw[hy];rfl) (Ce he) hj hk)
 rename_i id e' n hx
 obtain rfl:=Nat.eq_of_beq_eq_true hb
 rw[hx] at hk ⊢
 exact bG T x y ho hu id e n k j hx hy (Ce he) hj hk
 rename_i id e' q n hx
 obtain rfl:=Nat.eq_of_beq_eq_true hb
 rw[hx] at hk ⊢
 exact bH T x y ho hu id e q n k j hx hy (Ce he) hj hk
 cases hb
 cases hb
 cases hb
 cases hb
def AbF (P:Program) (o:Oper) (ev:Operand->AV):Option (AV×Ba):=match ev (Oper.ixY o) with
 | .lit (.int .i64 j)=>bif ixB P o (ev (Oper.ixX o))&&(decide (0<=j)&&Nat.blt j.toNat (wY (ev (Oper.ixX o)))) then some (Ax (ev (Oper.ixX o)) j.toNat,.none) else none
 |_=>none
theorem AbG {V:AV} {f:Ba} (h:AbF P o ev=some (V,f)):Cw P B D0 o ev pre V f:=by
 unfold AbF at h
 split at h
 rename_i j hy
 cases hb:ixB P o (ev (Oper.ixX o))&&(decide (0<=j)&&Nat.blt j.toNat (wY (ev (Oper.ixX o)))) with
 |false=>rw[hb] at h;cases h
 |true=>
  rw[hb] at h
  cases h
  rw[Bool.and_eq_true,Bool.and_eq_true] at hb
  obtain⟨h1,h2,h3⟩:=hb
  exact sK j j.toNat h1 hy (by have:=of_decide_eq_true h2;omega) (by simpa [Nat.blt_eq] using h3)
 cases h
def oL (P:Program) (o:Oper) (ev:Operand->AV):Option (AV×Ba):=match o.op with
 | .indexAddr T x y=>match P.underlying T with
  |some (.array len el)=>match Hz P el,ev x,ev y with
   |some e,.ptr id off,.lit (.int .i64 j)=>bif Nat.blt 1 len&&(decide (0<=j)&&Nat.blt j.toNat len) then some (.ptr id (off+j.toNat*e),.none) else none
   |_,_,_=>none
  |_=>none
 |_=>none
theorem wK {V:AV} {f:Ba} (h:oL P o ev=some (V,f)):Cw P B D0 o ev pre V f:=by
 unfold oL at h
 split at h
 rename_i T x y ho
 split at h
 rename_i len el hu
 split at h
 rename_i e id off j he hx hy
 cases hb:Nat.blt 1 len&&(decide (0<=j)&&Nat.blt j.toNat len) with
 |false=>rw[hb] at h;cases h
 |true=>
  rw[hb] at h
  cases h
  rw[Bool.and_eq_true,Bool.and_eq_true] at hb
  obtain⟨h1,h2,h3⟩:=hb
  exact bI T x y ho hu id off e j.toNat j hx hy (Ce he) (by simpa [Nat.blt_eq] using h1) (by have:=of_decide_eq_true h2;omega) (by simpa [Nat.blt_eq] using h3)
 cases h
 cases h
 cases h
def rY (P:Program) (o:Oper) (ev:Operand->AV) (pre:Nat->Option Ar):Option (AV×Ba):=match o.op with
 | .load T x=>match ev x with
  | .ptr id off=>match pre id with
   |some (.vec _ e n f)=>match Vy P T with
    |some false=>bif Nat.blt 0 e&&Nat.blt (off/e) n then some ((f (off/e)).cell (off%e),.read id) else none
    |some true=>match Hz P T with
     |some k=>bif Nat.beq k e&&(Nat.beq (off%e) 0&&Nat.blt (off/e) n) then some (mkAgg ((List.range e).map λj=>(f (off/e)).cell j),.read id) else none
     |none=>none
    |none=>none
   |_=>none
  |_=>none
 | .store T x y=>match ev x with
  | .ptr id off=>match pre id with
   |some (.vec t e n f)=>match Hz P T with
    |some k=>bif Nat.beq k e&&(Nat.beq (off%e) 0&&(Nat.blt (off/e) n&&(Nat.beq (ev y).cells.length e&&((ev y).notTop&&(ev y).cells.all AV.one1)))) then some (.undef,.set id (.vec t e n λk=>if k=off/e then ev y else f k)) else none
    |none=>none
   |_=>none
  |_=>none
 |_=>none
theorem kF {V:AV} {f:Ba} (h:rY P o ev pre=some (V,f)):Cw P B D0 o ev pre V f:=by
 unfold rY at h
 split at h
 rename_i T x ho
 split at h
 rename_i id off hx
 split at h
 rename_i t e n g hp
 split at h
 rename_i ha
 cases hb:Nat.blt 0 e&&Nat.blt (off/e) n with
 |false=>rw[hb] at h;cases h
 |true=>
  rw[hb] at h
  cases h
  rw[Bool.and_eq_true] at hb
  have h1:0<e:=by simpa [Nat.blt_eq] using hb.1
  exact El T x ho (Fe ha) id (off/e) (off%e) e (by rw[hx,Nat.mul_comm,Nat.div_add_mod]) t n g hp (by simpa [Nat.blt_eq] using hb.2) (Nat.mod_lt _ h1)
 rename_i ha
 split at h
 rename_i k hk
 cases hb:Nat.beq k e&&(Nat.beq (off%e) 0&&Nat.blt (off/e) n) with
 |false=>rw[hb] at h;cases h
 |true=>
  rw[hb] at h
  cases h
  rw[Bool.and_eq_true,Bool.and_eq_true] at hb
  obtain⟨h1,h2,h3⟩:=hb
  obtain rfl:=Nat.eq_of_beq_eq_true h1
  have h2:=Nat.eq_of_beq_eq_true h2
  exact Az T x ho (Fe ha) k (Ce hk) id (off/k) (by rw[hx,show off/k*k=off by have:=Nat.div_add_mod off k;rw[h2,Nat.add_zero,Nat.mul_comm] at this;exact this]) t n g hp (by simpa [Nat.blt_eq] using h3)
 cases h
 cases h
 cases h
 cases h
 rename_i T x y ho
 split at h
 rename_i id off hx
 split at h
 rename_i t e n g hp
 split at h
 rename_i k hk
 cases hb:Nat.beq k e&&(Nat.beq (off%e) 0&&(Nat.blt (off/e) n&&(Nat.beq (ev y).cells.length e&&((ev y).notTop&&(ev y).cells.all AV.one1)))) with
 |false=>rw[hb] at h;cases h
 |true=>
  rw[hb] at h
  cases h
  simp only[Bool.and_eq_true] at hb
  obtain⟨h1,h2,h3,h4,h5,h6⟩:=hb
  obtain rfl:=Nat.eq_of_beq_eq_true h1
  have h2:=Nat.eq_of_beq_eq_true h2
  exact Eb T x y ho k (Ce hk) id (off/k) (by rw[hx,show off/k*k=off by have:=Nat.div_add_mod off k;rw[h2,Nat.add_zero,Nat.mul_comm] at this;exact this]) t n g hp (by simpa [Nat.blt_eq] using h3) (Nat.eq_of_beq_eq_true h4) h5 h6 _ rfl
 cases h
 cases h
 cases h
 cases h
def evH (P:Program) (o:Oper) (ev:Operand->AV) (pre:Nat->Option Ar) (nid:Nat):Option (AV×Ba):=
 match o.op with
 | .binOp .. =>match AbH o ev with
  |some x=>some x
  |none=>evG P o ev pre nid
 | .indexAddr .. =>match AbF P o ev with
  |some x=>some x
  |none=>match oL P o ev with
   |some x=>some x
   |none=>evG P o ev pre nid
 | .load .. =>match evG P o ev pre nid with
  |some x=>some x
  |none=>rY P o ev pre
 | .store .. =>match evG P o ev pre nid with
  |some x=>some x
  |none=>rY P o ev pre
 |_=>evG P o ev pre nid
theorem AbE {nid:Nat} {V:AV} {f:Ba} (h:evH P o ev pre nid=some (V,f)):Cw P B D0 o ev pre V f:=by
 unfold evH at h
 split at h
 split at h
 rename_i hx;cases h;exact AbI hx
 exact Ry h
 split at h
 rename_i hx;cases h;exact AbG hx
 split at h
 rename_i hx;cases h;exact wK hx
 exact Ry h
 split at h
 rename_i hx;cases h;exact Ry hx
 exact kF h
 split at h
 rename_i hx;cases h;exact Ry hx
 exact kF h
 exact Ry h
end Go.Proofs.YtbggmndaahbojaaGreat
namespace Go.Proofs.YtbggmndaahbojaaGreat
open Go.RowKit
variable {P:Program} {R:Option Nat} {B:Nat} {D0:Ap} {o:Oper} {ev:Operand->AV} {pre:Nat->Option Ar} {s:St} {Q:Exit->St->Prop}
def Af4:List Oper->Nat->Oper
 |[],_=>default
 |o::_,0=>o
 |_::l,n+1=>Af4 l n
theorem kU:∀(a:List Oper) (o:Oper) (l:List Oper),Af4 (a++o::l) a.length=o
 |[],_,_=>rfl
 |_::a,o,l=>kU a o l
abbrev vI:=List (Nat×AV×Ba)
def rZ:vI->Nat->Option (AV×Ba)
 |[],_=>none
 |(i,x)::l,j=>bif Nat.beq i j then some x else rZ l j
def nxF (F:List Ba) (nx:Nat):Nat:=F.foldl (λk f=>f.nx k) nx
def dF (P:Program) (B:Nat) (D0:Ap) (l:List Oper) (V:List AV) (F:List Ba) (s:St):vI->Prop
 |[]=>True
 |(i,v,f)::r=>Cw P B D0 (Af4 l i) (mU l.toArray V s i) (Ak (Gx F s.h i)) v f/\dF P B D0 l V F s r
theorem dG {l:List Oper} {V:List AV} {F:List Ba}:∀{ex:vI},dF P B D0 l V F s ex->∀{i:Nat} {v:AV} {f:Ba},rZ ex i=some (v,f)->Cw P B D0 (Af4 l i) (mU l.toArray V s i) (Ak (Gx F s.h i)) v f
 |[],_,_,_,_,h=>by cases h
 |(j,v',f')::r,hx,i,v,f,h=>by
  unfold rZ at h
  cases hb:Nat.beq j i with
  |false=>rw[hb] at h;exact dG hx.2 h
  |true=>
   rw[hb] at h
   cases h
   have:=Nat.eq_of_beq_eq_true hb
   subst this
   exact hx.1
def kB (P:Program) (ops:Array Oper) (ex:vI) (s:St) (o:Oper) (V:List AV) (F:List Ba):Option (AV×Ba):=
 match rZ ex V.length with
 |some x=>some x
 |none=>evH P o (mU ops V s V.length) (Ak (Gx F s.h V.length)) (nxF F s.nx)
def Ab7 (P:Program) (ops:Array Oper) (ex:vI) (s:St) (o:Oper) (V:List AV) (F:List Ba):Option (AV×Ba):=
 match o.guard with
 |none=>kB P ops ex s o V F
 |some (j,w)=>match V.getD j .top with
  | .lit (.bool b)=>match w,b with
   |true,true|false,false=>kB P ops ex s o V F
   |_,_=>some (.undef,.none)
  | .lit (.tuple a)=>match a.toList with
   |[]=>some (.undef,.none)
   |_=>none
  |_=>none
def oH (P:Program) (ops:Array Oper) (ex:vI) (s:St):List Oper->List AV->List Ba->Option (List AV×List Ba)
 |[],V,F=>some (V,F)
 |o::l,V,F=>match Ab7 P ops ex s o V F with
  |some (v,f)=>oH P ops ex s l (V++[v]) (F++[f])
  |none=>none
theorem rX {ops:Array Oper} {ex:vI} {V':List AV} {F':List Ba}:∀(l:List Oper) (V:List AV) (F:List Ba),oH P ops ex s l V F=some (V',F')->(∃V2,V'=V++V2)/\∃F2,F'=F++F2
 |[],V,F,h=>by cases h;exact⟨⟨[],by simp⟩,[],by simp⟩
 |o::l,V,F,h=>by
  unfold oH at h
  split at h
  obtain⟨⟨V2,h1⟩,F2,h2⟩:=rX l _ _ h
  exact⟨⟨_,by rw[h1,List.append_assoc]⟩,_,by rw[h2,List.append_assoc]⟩
  cases h
theorem Yt {α:Type} (a b:List α) (d:α) {i:Nat} (h:i<a.length):(a++b).getD i d=a.getD i d:=by
 simp[List.getElem?_append_left h]
theorem Afj {ops:Array Oper} (a b:List AV):mU ops (a++b) s a.length=mU ops a s a.length:=funext λx=>by
 cases x with
 |tmp t=>
  simp only[mU]
  cases h:Ej ops ops.size t with
  |none=>rfl
  |some j=>
   dsimp only
   cases hb:Nat.blt j a.length with
   |false=>rfl
   |true=>
    rw[if_pos rfl,if_pos rfl]
    exact Yt a b _ (by simpa [Nat.blt_eq] using hb)
 |_=>rfl
theorem dO (a b:List Ba) (h:Cx):∀{k:Nat},k<=a.length->Gx (a++b) h k=Gx a h k
 |0,_=>rfl
 |k+1,hk=>by rw[Sa,Sa,dO a b h (k:=k) ω,Yt a b _ ω]
theorem Ab8 {l0 pre:List Oper} {l:List Oper} {ex:vI} {V V2:List AV} {F F2:List Ba} {v:AV} {f:Ba} (h0:l0=pre++o::l) (hp:pre.length=V.length) (hF:F.length=V.length) (hex:dF P B D0 l0 (V++V2) (F++F2) s ex) (h:kB P l0.toArray ex s o V F=some (v,f)):
  Cw P B D0 o (mU l0.toArray (V++V2) s V.length) (Ak (Gx (F++F2) s.h V.length)) v f:=by
 unfold kB at h
 split at h
 rename_i x hx
 cases h
 have:=dG hex hx
 rw[h0,<-hp,kU] at this
 rw[h0,<-hp]
 exact this
 rw[Afj,dO F F2 s.h ω]
 exact AbE h
theorem Ab6 {l0:List Oper} {ex:vI} {V':List AV} {F':List Ba} (hex:dF P B D0 l0 V' F' s ex):∀(l pre:List Oper) (V:List AV) (F:List Ba),l0=pre++l->pre.length=V.length->F.length=V.length->oH P l0.toArray ex s l V F=some (V',F')->AeN P B D0 l0.toArray V' F' s V.length l
 |[],_,_,_,_,_,_,_=>trivial
 |o::l,pre,V,F,h0,hp,hF,h=>by
  have h':=h
  unfold oH at h
  split at h
  rename_i v f hs
  have ih:=Ab6 hex l (pre++[o]) (V++[v]) (F++[f]) (by rw[h0];simp) (by simp[hp]) (by simp[hF]) h
  rw[show (V++[v]).length=V.length+1 by simp] at ih
  obtain⟨⟨V2,hV⟩,F2,hF2⟩:=rX l _ _ h
  have hv:V'.getD V.length .top=v:=by rw[hV];simp
  have hf:F'.getD V.length .none=f:=by rw[hF2,<-hF];simp
  have hV3:V'=V++([v]++V2):=by rw[hV,List.append_assoc]
  have hF3:F'=F++([f]++F2):=by rw[hF2,List.append_assoc]
  refine⟨?_,ih⟩
  have ok:kB P l0.toArray ex s o V F=some (v,f)->Cw P B D0 o (mU l0.toArray V' s V.length) (Ak (Gx F' s.h V.length)) (V'.getD V.length .top) (F'.getD V.length .none):=λh=>by
   rw[hv,hf,hV3,hF3]
   rw[hV3,hF3] at hex
   exact Ab8 h0 hp hF hex h
  unfold Ab7 at hs
  split at hs
  rename_i hg;exact xG hg (ok hs)
  rename_i j w hg
  have hj:∀{x:AV},V.getD j .top=x->x≠.top->V'.getD j .top=x:=λ {x} hx hn=>by
   by_cases hlt:j<V.length
   rw[hV3,Yt _ _ _ hlt];exact hx
   rw[Γ,List.getElem?_eq_none ω] at hx
   exact absurd hx.symm hn
  split at hs
  rename_i b hb
  have hb:=hj hb (by simp)
  split at hs
  exact tG hg hb (ok hs)
  exact tG hg hb (ok hs)
  rename_i h1 h2
  cases hs
  refine AcY hg (hb.trans ?_) hv hf
  cases w<;>cases b<;>first|rfl|exact(h1 rfl rfl).elim|exact(h2 rfl rfl).elim
  rename_i a ha
  have ha:=hj ha (by simp)
  split at hs
  rename_i he
  cases hs
  have:a=#[]:=by cases a;simp_all
  subst this
  exact xH hg ha hv hf
  cases hs
  cases hs
  cases h
theorem AjL {id:Nat} {l:List Oper} (ex:vI) (keep:List Nat) (nx':Nat)
  (hop:dF P B D0 l ((oH P l.toArray ex s l [] []).getD ([],[])).1 ((oH P l.toArray ex s l [] []).getD ([],[])).2 s ex) (hQ:Q .normal ⟨xQ l.toArray ((oH P l.toArray ex s l [] []).getD ([],[])).1 s keep,Gx ((oH P l.toArray ex s l [] []).getD ([],[])).2 s.h l.toArray.size,nx',s.n⟩)
  (hm:P.follows .mixedOrders=true:=by kernel_rfl) (hr:(oH P l.toArray ex s l [] []).isSome=true:=by kernel_rfl) (hB:drB l.toArray ((oH P l.toArray ex s l [] []).getD ([],[])).2 s.nx s.n=true:=by kernel_rfl) (hnx:nxB ((oH P l.toArray ex s l [] []).getD ([],[])).2 s.nx nx'=true:=by kernel_rfl):AC P R B D0 (.region id l.toArray true) s Q:=by
 cases he:oH P l.toArray ex s l [] [] with
 |none=>rw[he] at hr;cases hr
 |some x=>
  obtain⟨V',F'⟩:=x
  rw[he] at hop hQ hB hnx
  exact Aeq V' F' keep nx' _ hm hB hnx rfl (Ab6 hop l [] [] [] rfl rfl rfl he) hQ
end Go.Proofs.YtbggmndaahbojaaGreat
namespace Go.Proofs.YtbggmndaahbojaaGreat
open Go.RowKit
abbrev WA (z:Int):AV:= .lit (Ah z)
theorem nH {P:Program} {f:FuncId} {vs:List Value} {v:Value} (h:∀w,Calls P f vs.toArray w λe w'=>e= .returned v/\Below w.heap.size w w'):AF P f (vs.map .lit) (.lit v):=by
 intro E us hD hn hv
 have:us=vs.toArray:=VR.lits (E:=E.fz) (by simpa using hn) (VR.tops hv)
 subst this
 refine(h E.w).mono ?_
 rintro e w' ⟨rfl,hb⟩
 exact⟨v,E.D,rfl,.lit _ _,hb,λ_ h=>h,λ_ h=> .inl h,λb hb'=>Nat.lt_of_lt_of_le (hD b hb') hb.size⟩
theorem tR {w:World} {D:Nat->Prop} {e n:Nat} {v:Value} {cs:List Value} (h:Gc w D e v n cs) {E:Ap} (hw:E.w=w) (hD:∀b,D b->E.D b) {f:Nat->AV} (hc:∀i j,i<n->j<e->VR E.fz ((f i).cell j) (cs.getD (i*e+j) undef)):VR E (.sl e n f) v:=by
 subst hw
 by_cases hn:n=0
 obtain⟨A,c,rfl⟩:=h.slice
 subst hn
 exact .sl0 _ _ _ _ _
 rcases h.2 with⟨A,c,rfl,h0⟩|⟨b,o,c,rfl,hd,hcell⟩
 exact absurd h0 hn
 refine .sl _ _ _ _ _ _ _ (λi j=>cs.getD (i*e+j) undef) ω (hD b hd) (λi j hi hj=>?_) hc
 have hlt:i*e+j<n*e:=by
  have:=Nat.mul_le_mul_right e (show i+1<=n from hi)
  rw[Nat.succ_mul] at this;omega
 rw[Nat.add_assoc]
 exact hcell _ _ (by rw[Γ,List.getElem?_eq_getElem (by rw[h.1];exact hlt)];rfl)
theorem Sq {P:Program} {f:FuncId} {args:List AV} {r:AV} (h:∀(E:Ap) (vs:Array Value),(∀b,E.D b->b<E.w.heap.size)->vs.size=args.length->(∀i,i<args.length->VR E.fz (args.getD i .top) (vs.getD i undef))->
  Calls P f vs E.w λe w'=>∃v,e= .returned v/\Below E.w.heap.size E.w w'/\∀E':Ap,E'.w=w'->(∀b,E.D b->E'.D b)->(∀b,E.w.heap.size<=b->b<w'.heap.size->E'.D b)->VR E' r v):AF P f args r:=by
 intro E vs hD hn hv
 refine(h E vs hD hn hv).mono ?_
 rintro e w' ⟨v,rfl,hb,hr⟩
 refine⟨v,λb=>E.D b\/(E.w.heap.size<=b/\b<w'.heap.size),rfl,hr _ rfl (λb hb=> .inl hb) (λb h1 h2=> .inr ⟨h1,h2⟩),hb,λb hb=> .inl hb,λb hb=>?_,λb hb'=>?_⟩
 rcases hb with hb|hb
 exact .inl hb
 exact .inr hb.1
 rcases hb' with hb'|hb'
 exact Nat.lt_of_lt_of_le (hD b hb') hb.size
 exact hb'.2
theorem Ae6 {P:Program} {f:FuncId} {vs:List Value} {r:AV} (h:∀w,Calls P f vs.toArray w λe w'=>∃v,e= .returned v/\Below w.heap.size w w'/\∀E':Ap,E'.w=w'->(∀b,w.heap.size<=b->b<w'.heap.size->E'.D b)->VR E' r v):AF P f (vs.map .lit) r:=by
 refine Sq λE us hD hn hv=>?_
 have:us=vs.toArray:=VR.lits (E:=E.fz) (by simpa using hn) (VR.tops hv)
 subst this
 refine(h E.w).mono ?_
 rintro e w' ⟨v,rfl,hb,hr⟩
 exact⟨v,rfl,hb,λE' h1 _ h3=>hr E' h1 h3⟩
theorem AkN {E:Ap} {x y:AV} {a b:Value} (h1:VR E x a) (h2:VR E y b):VR E (.tup [x,y]) (.tuple #[a,b]):= .tup _ _ _ rfl λi hi=>by
 match i,hi with
 |0,_=>exact h1
 |1,_=>exact h2
theorem AF.call {P:Program} {f:FuncId} {args:List AV} {v:Value} (h:AF P f args (.lit v)) (W:World) (vs:Array Value) (hn:vs.size=args.length) (hv:∀E:Ap,E.w=W->(∀b,b<W.heap.size->E.D b)->∀i,i<args.length->VR E (args.getD i .top) (vs.getD i undef)):Calls P f vs W λe w'=>e= .returned v/\Below W.heap.size W w':=by
 refine(h { π:=λ_=>0,cap:=λ_=>0,A:=λ_=>False,D:=λb=>b<W.heap.size,w:=W } vs (λb hb=>hb) hn λi hi=>hv _ rfl (λb hb=>hb) i hi).mono ?_
 rintro e w' ⟨u,D',rfl,hr,hb,_⟩
 exact⟨by rw[hr.lit_inv],hb⟩
end Go.Proofs.YtbggmndaahbojaaGreat