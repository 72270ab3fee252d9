/- Part 14 of the proof of PH.card_holds: no condition beyond the row's. -/
import Derived.Test.YtkpjchfniejdoaaGreatDoorPH13
import Derived.OwnWalkIn
import Derived.BigFrameIn
import Derived.Maps.OwnIn
set_option maxRecDepth 100000
set_option maxHeartbeats 40000000
namespace Go.Proofs.YtkpjchfniejdoaaGreatDoor
open Go.Proofs.Tryz
open Go.RowKit
def Pe (pts:List V3) (ts:List Int):List Sg:=(List.range (pts.length-1)).map λk=>Yw (Dz pts k) (Dz pts (k+1)) (ts.getD k 0) (ts.getD (k+1) 0) 2
theorem My (pts:List V3) (ts:List Int):(Pe pts ts).length=pts.length-1:=by simp[Pe]
theorem zV (pts:List V3) (ts:List Int) (k:Nat) (h:k<pts.length-1):(Pe pts ts).take (k+1)=(Pe pts ts).take k++[Yw (Dz pts k) (Dz pts (k+1)) (ts.getD k 0) (ts.getD (k+1) 0) 2]:=by
 rw[List.take_succ_eq_append_getElem (by rw[My];exact h)]
 simp[Pe]
theorem AhC (v1 v2:Value) (w:World) (h1:∃A n c,v1= .slice A n c) (h2:∃A n c,v2= .slice A n c):
  Calls Tryz.prog 183 #[v1,v2] w λe w'=>e= .returned (.func (.func 231) #[] #[.pointer (some ⟨w.heap.size,0,none⟩),.pointer (some ⟨w.heap.size+1,0,none⟩)])/\Below w.heap.size w w'/\w'.heap.size=w.heap.size+2/\
   w'.heap[w.heap.size]?=some (.cells #[v1] 22 (0,0))/\w'.heap[w.heap.size+1]?=some (.cells #[v2] 95 (0,0)):=by
 obtain⟨A1,n1,c1,rfl⟩:=h1
 obtain⟨A2,n2,c2,rfl⟩:=h2
 go_enter func183,ntmps183
 go_wp2_with fail
 go_ret
 refine⟨rfl,(Ψ.alloc ζ _).alloc (by simp) _,by simp,?_,?_⟩
 · rw[Below.heap_alloc _ _ _ (by simp)];exact Gq _ _ _ rfl
 · exact Gq _ _ _ (by simp)
theorem Cs.keepS {w w':World} {D:Nat->Prop} {size n:Nat} {v:Value} {xs:List Value} (h:Cs w D size v n xs) (hk:∀b o u,D b->w.cell? ⟨b,o,none⟩=some u->w'.cell? ⟨b,o,none⟩=some u):Cs w' D size v n xs:=by
 refine⟨h.1,?_⟩
 rcases h.2 with h0|⟨b,o,c,rfl,hd,hc⟩
 exact .inl h0
 exact .inr ⟨b,o,c,rfl,hd,λj u hu=>hk b _ u hd (hc j u hu)⟩
theorem Mi.keepS {w w':World} {D:Nat->Prop} {s:Sg} {cs:List Value} (h:Mi w D s cs) (hk:∀b o u,D b->w.cell? ⟨b,o,none⟩=some u->w'.cell? ⟨b,o,none⟩=some u):Mi w' D s cs:=by
 obtain⟨vx,vy,vz,e,h1,h2,h3⟩:=h
 exact⟨vx,vy,vz,e,h1.keepS hk,h2.keepS hk,h3.keepS hk⟩
theorem Gp.keepS {w w':World} {D:Nat->Prop} (hk:∀b o u,D b->w.cell? ⟨b,o,none⟩=some u->w'.cell? ⟨b,o,none⟩=some u):∀{ss:List Sg} {cs:List Value},Gp w D ss cs->Gp w' D ss cs
 |[],_,h=>h
 |_::_,_,⟨a,b,e,h1,h2⟩=>⟨a,b,e,h1.keepS hk,Gp.keepS hk h2⟩
theorem Cq.keepS {w w':World} {lo hi:Nat} {v:Value} {ss:List Sg} (h:Cq w lo hi v ss) (hk:∀b o u,lo<=b->b<hi->w.cell? ⟨b,o,none⟩=some u->w'.cell? ⟨b,o,none⟩=some u):Cq w' lo hi v ss:=by
 obtain⟨cs,h1,h2⟩:=h
 exact⟨cs,Cs.keepS h1 λb o u hd=>hk b o u hd.1 hd.2,Gp.keepS (λb o u hd=>hk b o u hd.1 hd.2) h2⟩
theorem Pd {A A':World} {row:Option Nat} (hg:A.grownBy A' row) (hr:∀r,row=some r->∃o:Obj,A.heap[r]?=some o/\o.isCells=false):∀b o u,A.cell? ⟨b,o,none⟩=some u->A'.cell? ⟨b,o,none⟩=some u:=by
 intro b o u h
 have hb:b<A.heap.size:=by
  unfold World.cell? at h
  cases hh:A.heap[b]? with
  |none=>simp[hh] at h
  |some _=>exact(Ξ hh).1
 by_cases e:row=some b
 obtain⟨ob,ho,hc⟩:=hr b e
 unfold World.cell? at h
 simp only[ho] at h
 cases ob<;>simp_all [Obj.isCells]
 exact(World.cell?_of_block (hg.block b hb (λe'=>e e'.symm))).trans h
theorem Cc.kept {A A':World} {B base lo:Nat} {sv:Value} {ss:List Sg} {row:Option Nat} (h:Cc A B base sv ss) (hB:B<lo) (hg:A.grownBy A' row) (hr:∀r,row=some r->lo<=r/\∃o:Obj,A.heap[r]?=some o/\o.isCells=false):Cc A' B base sv ss:=by
 obtain⟨cs,hrow,hs⟩:=h.row
 refine⟨Ks h.box hg hB (λr e=>(hr r e).1),cs,?_,?_⟩
 refine hrow.kept hg ?_
 by_cases e:sv.ownBlock=none
 exact .inl e
 right
 intro e2
 rcases hrow.2 with⟨rfl,_⟩|⟨g',cap,cur,rfl,_,hg',_⟩
 simp[Value.ownBlock] at e
 obtain⟨hx,o,ho,hc⟩:=hr g' (by rw[<-e2];rfl)
 rw[hg'] at ho
 cases ho
 simp[Obj.isCells] at hc
 exact(hs.keepS λb o u _ hu=>Pd hg (λr e=>(hr r e).2) b o u hu).more λb hd=>⟨hd.1,Nat.lt_of_lt_of_le hd.2.1 hg.size,hd.2.2⟩
structure TIn (pts:List V3) (ts:List Int) (w0:World) (B k:Nat) (sv:Value) (A:World):Prop where
 own:Cc A B w0.heap.size sv ((Pe pts ts).take k)
 keep:Ce (λb=>b=B) w0 A
theorem TIn.own_ {pts:List V3} {ts:List Int} {w0:World} {B k:Nat} {sv:Value} (hB:B<w0.heap.size):OwnFrom w0.heap.size (λ(_:Unit) A=>TIn pts ts w0 B k sv A):=by
 intro _ A A' row h hg hr
 exact⟨h.own.kept hB hg hr,Nv h.keep hg (λr e=>(hr r e).1)⟩
theorem Cc.ltB {A:World} {B base:Nat} {sv:Value} {ss:List Sg} (h:Cc A B base sv ss) {b:Nat} (hb:b=B\/sv.ownBlock=some b):b<A.heap.size:=by
 rcases hb with rfl|hb
 exact(Ξ h.box).1
 obtain⟨_,hr,_⟩:=h.row;exact(hr.lt b hb).2
theorem Cc.geB {A:World} {B base:Nat} {sv:Value} {ss:List Sg} (h:Cc A B base sv ss) {b:Nat} (hb:sv.ownBlock=some b):base<=b:=by
 obtain⟨_,hr,_⟩:=h.row;exact(hr.lt b hb).1
structure Akj (pts:List V3) (ts:List Int) (w0:World) (B k:Nat) (sv:Value) (B10:Nat) (A:World):Prop where
 tin:TIn pts ts w0 B k sv A
 seg:∃cs,A.heap[B10]?=some (.cells cs.toArray 141 (0,0))/\Mi A (λb=>w0.heap.size<=b/\b<A.heap.size/\sv.ownBlock≠some b) (Yw (Dz pts k) (Dz pts (k+1)) (ts.getD k 0) (ts.getD (k+1) 0) 2) cs
theorem Akj.own_ {pts:List V3} {ts:List Int} {w0:World} {B k B10:Nat} {sv:Value} (hB:B<w0.heap.size):OwnFrom w0.heap.size (λ(_:Unit) A=>Akj pts ts w0 B k sv B10 A):=by
 intro _ A A' row h hg hr
 obtain⟨cs,hc,hs⟩:=h.seg
 have hk:=Pd hg (λr e=>(hr r e).2)
 refine⟨TIn.own_ hB () A A' row h.tin hg hr,cs,?_,(hs.keepS λb o u _ hu=>hk b o u hu).more λb hd=>⟨hd.1,Nat.lt_of_lt_of_le hd.2.1 hg.size,hd.2.2⟩⟩
 by_cases e:row=some B10
 obtain⟨_,o,ho,hcc⟩:=hr B10 e
 rw[hc] at ho;cases ho;simp[Obj.isCells] at hcc
 exact(hg.block B10 (Ξ hc).1 (λe'=>e e'.symm)).trans hc
def AmL (pts:List V3) (ts:List Int):Prop:=∀k,k<pts.length->(Dz pts k).pt=true/\(if k=0 then -1 else ts.getD (k-1) 0)<ts.getD k 0/\ts.getD k 0<=3600000
theorem AiS (pts:List V3) (ts:List Int) (v1 v2:Value) (w:World) (h1:Bv w 0 w.heap.size 3 v1 pts.length (Iz pts)) (h2:Bv w 0 w.heap.size 1 v2 pts.length (Ib ts)) (hlen:ts.length=pts.length) (hn:2<=pts.length) (hn2:pts.length<=257) (ht:AmL pts ts):
  Calls Tryz.prog 144 #[v1,v2] w λe w'=>∃A c,e= .returned (.tuple #[.slice A (pts.length-1) c,.int .i64 0])/\Cq w' w.heap.size w'.heap.size (.slice A (pts.length-1) c) (Pe pts ts)/\Below w.heap.size w w':=by
 obtain⟨b1,o1,c1,rfl,_,hb1,hc1⟩:=h1.pos ω
 obtain⟨b2,o2,c2,rfl,_,hb2,hc2⟩:=h2.pos ω
 have HT:=Δ ht
 have HC1:=Δ hc1
 have HC2:=Δ hc2
 have HL:=Δ hlen
 clear ht hc1 hc2 h1 h2 hlen
 refine Gy func144 rfl ?_
 simp only[ntmps144,List.size_toArray,List.length_cons,List.length_nil,Nat.reduceAdd,Nat.reduceSub,Array.replicate_succ,
   Array.replicate_zero,List.push_toArray,List.append_toArray,List.nil_append,List.cons_append]
 go_wp2_with fail
 go_loopw [6,23] (λl i wr=>∃k:Nat,k<=pts.length/\i= .int .i64 k/\l= .int .i64 (if k=0 then -1 else ts.getD (k-1) 0)/\Below w.heap.size w wr) (λ_ i _=>pts.length-(intOf i).toNat)
 case atStart=>exact⟨0,Nat.zero_le _,rfl,rfl,Below.refl _ _⟩
 case round=>
  obtain⟨k,hk,rfl,rfl,hbel⟩:=hrel
  by_cases hlt:k<pts.length
  ·
    obtain⟨g1,g2,g3⟩:=HT.out k hlt
    have hkt:k<ts.length:=by rw[HL.out];exact hlt
    have m0:wr.cell? ⟨b2,o2+k,none⟩=some (.int .i64 (ts.getD k 0)):=(hbel.cell (p:=⟨b2,o2+k,none⟩) hb2).trans (HC2.out k _ (by rw[Yv ts k hkt];simp[hkt]))
    have hv:∀j u,[Value.int .i64 (Dz pts k).x,.int .i64 (Dz pts k).y,.int .i64 (Dz pts k).z][j]?=some u->wr.cell? ⟨b1,o1+k*3+j,none⟩=some u:=λj u hu=>by
     rw[Nat.add_assoc]
     refine(hbel.cell (p:=⟨b1,o1+(k*3+j),none⟩) hb1).trans (HC1.out _ u (Mu pts k hlt j u ?_))
     have e:Dz pts k=pts[k]:=by unfold Dz;simp[hlt]
     rw[<-e];exact hu
    have v0:=hv 0 _ rfl
    have v1:=hv 1 _ rfl
    have v2:=hv 2 _ rfl
    simp only[Nat.add_zero] at v0
    have e1:(if k+1=0 then (-1:Int) else ts.getD (k+1-1) 0)=ts.getD k 0:=by simp
    generalize (if k=0 then (-1:Int) else ts.getD (k-1) 0)=l at*
    generalize hT:ts.getD k 0=t at*
    generalize Dz pts k=q at*
    have G1:=Δ g1
    have HTk:=Δ hT
    have E1:=Δ e1
    clear hv g1 hT e1
    go_wp2_with fail
    refine(Gg _ _ _ _).mono ?_
    rintro e w1 ⟨rfl,hb⟩
    rw[show Wk q.x q.y q.z=true from G1.out]
    have hbel1:=hbel.trans (hb.mono hbel.size)
    clear m0 v0 v1 v2 hbel hb
    go_wp2_with fail
    go_roundw
    case rel=>exact⟨k+1,ω,by go_num,by rw[E1.out],hbel1⟩
    case measure=>simp[intOf];omega
  ·
    have hkn:k=pts.length:=by omega
    have HK:=Δ hkn
    clear hkn
    go_wp2_with fail
    refine(AhC _ _ _ ⟨_,_,_,rfl⟩ ⟨_,_,_,rfl⟩).mono ?_
    rintro e wL ⟨rfl,hbL,hzL,hL1,hL2⟩
    have hwr:=hbel.size
    have hbW:Below w.heap.size w wL:=(hbel.alloc hbel.size _).trans (hbL.mono (by simp;omega))
    have HOWN:Hid (Cc wL wr.heap.size wL.heap.size (.slice none 0 0) []):=(Cc.new wr wr.heap.size wL.heap.size rfl).up hbL
    simp only[World.size_alloc] at hzL hL1 hL2
    have HHL1:=Δ hL1
    have HHL2:=Δ hL2
    have HBW:=Δ hbW
    have HZL:Hid (wL.heap.size=wr.heap.size+1+2):=hzL
    have hzL1:wr.heap.size+1+1<wL.heap.size:=by omega
    have hzL2:w.heap.size<wL.heap.size:=by omega
    clear hL1 hL2 hbL hbel hbW hzL
    have ITER:Hid (Ac6 231 #[.pointer (some ⟨wr.heap.size+1,0,none⟩),.pointer (some ⟨wr.heap.size+1+1,0,none⟩)] (pts.length-1) (λlo=>oF lo pts ts) (λb=>b=wr.heap.size+1\/b=wr.heap.size+1+1\/b=b1\/b=b2) wL):=
     Ad4 wL (wr.heap.size+1) (wr.heap.size+1+1) b1 o1 c1 b2 o2 c2 pts ts _ (by intro b hb;omega) (.inl rfl) (.inr (.inl rfl)) (.inr (.inr (.inl rfl))) (.inr (.inr (.inr rfl)))
      (by rw[World.cell?,HHL1.out];rfl) (by rw[World.cell?,HHL2.out];rfl) (λj u hu=>(HBW.out.cell (p:=⟨b1,o1+j,none⟩) hb1).trans (HC1.out j u hu)) (λj u hu=>(HBW.out.cell (p:=⟨b2,o2+j,none⟩) hb2).trans (HC2.out j u hu)) HL.out ω
      (λq hq=>by obtain⟨k,hk,rfl⟩:=List.getElem_of_mem hq;have:=(HT.out k hk).1;unfold Dz at this;simpa [hk] using this)
    go_wp2_with fail
    refine aV (σ:=Value) (w0:=wL) (gf:=231) (lb:=#[.pointer (some ⟨wr.heap.size+1,0,none⟩),.pointer (some ⟨wr.heap.size+1+1,0,none⟩)]) rfl ?eg ITER.out Ψ (by intro b hb;omega) ?hps
     (λsv k A=>TIn pts ts wL wr.heap.size k sv A) (λsv b=>b=wr.heap.size\/sv.ownBlock=some b) (λ_ _=>False) (.slice none 0 0) (λs k=>TIn.own_ ω) (λc=>by intro _ _ _ _ h;exact h.elim) ?hlt ?hTP ?h0
     (λsv k args a' A=>a'.defers=[]/\a'.tmps.size=57/\a'.tmps[9]?=some (.pointer (some ⟨wr.heap.size,0,none⟩))/\∃B10,a'.tmps[10]?=some (.pointer (some ⟨B10,0,none⟩))/\Akj pts ts wL wr.heap.size k sv B10 A) ?hM ?hassign ?hbody ?hdone ?hstop
    case eg=>intro args w;kernel_rfl
    case hps=>rintro lo k A args ⟨cs,rfl,_⟩;rfl
    case hlt=>intro sv k A b hi hb;exact hi.own.ltB hb
    case hTP=>
     rintro sv k A b hi hT (rfl|hb)
     · omega
     · have:=hi.own.geB hb;omega
    case h0=>exact⟨HOWN.out,Ce.refl _ _⟩
    case hM=>
     intro sv k args a' _ A A' row h hg hr
     obtain⟨e1,e2,e3,B10,e4,h⟩:=h
     exact⟨e1,e2,e3,B10,e4,Akj.own_ ω () A A' row h hg hr⟩
    case hassign=>
     rintro l sv k A0 A args hk hz0 hI0 hbA hI ⟨cs,rfl,hseg⟩
     have hseg1:Mi A (λb=>wL.heap.size<=b/\b<A.heap.size/\sv.ownBlock≠some b) (Yw (Dz pts k) (Dz pts (k+1)) (ts.getD k 0) (ts.getD (k+1) 0) 2) cs:=
      hseg.more λb hd=>⟨Nat.le_trans hz0 hd.1,hd.2,λe=>by have:=hI0.own.ltB (.inr e);have:=hd.1;omega⟩
     obtain⟨sg,hsg⟩:∃sg,sg=Yw (Dz pts k) (Dz pts (k+1)) (ts.getD k 0) (ts.getD (k+1) 0) 2:=⟨_,rfl⟩
     rw[<-hsg] at hseg hseg1
     obtain⟨vx,vy,vz,rfl,hx,hy,hz⟩:=hseg
     obtain⟨Ax,cx,rfl⟩:=hx.slice
     obtain⟨Ay,cy,rfl⟩:=hy.slice
     obtain⟨Az,cz,rfl⟩:=hz.slice
     have HI:=Δ hI
     have HS:=Δ hseg1
     have HSG:=Δ hsg
     clear hI hI0 hseg1 hx hy hz hsg
     simp only[List.zip_toArray,List.zip_cons_cons,List.zip_nil_right,List.foldl_toArray,List.foldl_cons,List.foldl_nil,List.setIfInBounds_toArray,List.set_cons_succ,List.set_cons_zero]
     gi_wp2_with (rw[Oper.semAt_eq _ _ _ (λc h=>by cases h)];go_simp)
     have hal:Below A.heap.size A (A.alloc (.cells #[.int .i64 sg.f,.int .i64 sg.t,.int .i64 sg.o,.slice Ax sg.x.length cx,.slice Ay sg.y.length cy,.slice Az sg.z.length cz] 141)):=Ψ.alloc ζ _
     refine⟨⟨trivial,rfl,rfl,A.heap.size,rfl,⟨⟨HI.out.own.up hal,HI.out.keep.trans (Ce.of_below hal)⟩,[.int .i64 sg.f,.int .i64 sg.t,.int .i64 sg.o,.slice Ax sg.x.length cx,.slice Ay sg.y.length cy,.slice Az sg.z.length cz],Gq _ _ _ rfl,?_⟩⟩,KeepsOthers.alloc _ _,Ce.of_below hal⟩
     rw[<-HSG.out]
     have hzA:=hal.size
     exact(HS.out.keep λb o hd=>hal.cell (p:=⟨b,o,none⟩) hd.2.1).more λb hd=>⟨hd.1,ω,hd.2.2⟩
    case hbody=>
     rintro l sv k A args ⟨tmps',defers'⟩ size hk ⟨hd,hsz,e9,B10,e10,hM⟩ hsize
     dsimp only at hd hsz e9 e10
     subst hd
     obtain⟨v,hu,htm⟩:=Uy tmps' 57 hsz
     have f (i:Nat) (x:Value) (hi:i<57) (h:tmps'[i]?=some x):v i=x:=by rw[hu i hi] at h;exact Option.some.inj h
     have g9:=f _ _ δ e9
     have g10:=f _ _ δ e10
     simp only[List.range,List.range.loop,List.map_cons,List.map_nil,g9,g10] at htm
     subst htm
     clear hsz e9 e10 hu f g9 g10
     obtain⟨hT,cs,hc10,hseg⟩:=hM
     obtain⟨i0,hi0,hz0,hz1,hz2⟩:=info_parts Us
     have hown:=hT.own
     obtain⟨sA,sc,rfl⟩:=hown.slice
     obtain⟨csr,hrow,hsegs⟩:=hown.row
     have hcell:=hown.cell
     have hfro:=hown.frozen 0
     have hbox:=hown.box
     have hlk:((Pe pts ts).take k).length=k:=by rw[List.length_take,My];omega
     obtain⟨sg,hsg⟩:∃sg,sg=Yw (Dz pts k) (Dz pts (k+1)) (ts.getD k 0) (ts.getD (k+1) 0) 2:=⟨_,rfl⟩
     have hnext:=zV pts ts k hk
     rw[<-hsg] at hseg hnext
     have hseg1:=hseg
     obtain⟨vx,vy,vz,rfl,hx,hy,hz⟩:=hseg
     obtain⟨Ax,cx,rfl⟩:=hx.slice
     obtain⟨Ay,cy,rfl⟩:=hy.slice
     obtain⟨Az,cz,rfl⟩:=hz.slice
     have d0:A.cell? ⟨B10,0,none⟩=some (.int .i64 sg.f):=by rw[World.cell?,hc10];rfl
     have d1:A.cell? ⟨B10,1,none⟩=some (.int .i64 sg.t):=by rw[World.cell?,hc10];rfl
     have d2:A.cell? ⟨B10,2,none⟩=some (.int .i64 sg.o):=by rw[World.cell?,hc10];rfl
     have d3:A.cell? ⟨B10,3,none⟩=some (.slice Ax sg.x.length cx):=by rw[World.cell?,hc10];rfl
     have d4:A.cell? ⟨B10,4,none⟩=some (.slice Ay sg.y.length cy):=by rw[World.cell?,hc10];rfl
     have d5:A.cell? ⟨B10,5,none⟩=some (.slice Az sg.z.length cz):=by rw[World.cell?,hc10];rfl
     have HT2:=Δ hT
     have HSEGS:=Δ hsegs
     have HSG1:=Δ hseg1
     have HNX:=Δ hnext
     have HLK:=Δ hlk
     have HZA:Hid (wL.heap.size<=A.heap.size):=hT.keep.size
     have hBA:wr.heap.size<A.heap.size:=by have:=HZA.out;omega
     clear hT hsegs hseg1 hx hy hz hnext hsg hown hlk
     obtain⟨n,hn0⟩:∃n,n=((Pe pts ts).take k).length:=⟨_,rfl⟩
     rw[<-hn0] at hrow hcell hbox
     have HBOX:=Δ hbox
     have HN0:=Δ hn0
     have hnk:n<=256:=by rw[hn0,HLK.out];omega
     have HROW:=Δ hrow
     clear hn0 hbox
     gi_wp2_with (first
      |(gi_at_builtin;refine wpListIn_append_own_at _ rfl (.tmp 52) (.tmp 54) 89 rfl wL.heap.size 141 i0 _ 6 96 underlying89 hi0 hz0 hz1 hz2 rfl δ _ _ _ rfl (hrow.alloc _) ⟨A.heap.size,0,none⟩ 1 1 [.int .i64 sg.f,.int .i64 sg.t,.int .i64 sg.o,.slice Ax sg.x.length cx,.slice Ay sg.y.length cy,.slice Az sg.z.length cz] rfl rfl ?c1 ?c2 ?c3 ?c4 ?c5 ?_)
      |(rw[Oper.semAt_eq _ _ _ (λc h=>by cases h)];go_simp))
     case c1=>intro j u hu;rw[Ek];simpa using hu
     case c2=>simp[Value.oneCell']
     case c3=>unfold maxLen;omega
     case c4=>omega
     case c5=>have:=HZA.out;simp;omega
     intro v' w1 hown1 hg1 _ hat
     clear hcell hfro d0 d1 d2 d3 d4 d5
     have hn0:=HN0.out
     have hal:Below A.heap.size A (A.alloc (.cells #[.int .i64 sg.f,.int .i64 sg.t,.int .i64 sg.o,.slice Ax sg.x.length cx,.slice Ay sg.y.length cy,.slice Az sg.z.length cz] 141)):=Ψ.alloc ζ _
     obtain⟨WA,hWA⟩:∃WA,WA=A.alloc (.cells #[.int .i64 sg.f,.int .i64 sg.t,.int .i64 sg.o,.slice Ax sg.x.length cx,.slice Ay sg.y.length cy,.slice Az sg.z.length cz] 141):=⟨_,rfl⟩
     have hrowA:=HROW.out.alloc (.cells #[.int .i64 sg.f,.int .i64 sg.t,.int .i64 sg.o,.slice Ax sg.x.length cx,.slice Ay sg.y.length cy,.slice Az sg.z.length cz] 141)
     rw[<-hWA] at hg1 hal hrowA
     have hzW:WA.heap.size=A.heap.size+1:=by rw[hWA];simp
     rw[<-hzW] at hat
     have hKO:KeepsOthers A WA:=by rw[hWA];exact KeepsOthers.alloc _ _
     have hKP:Ce (λb=>b=wr.heap.size) A WA:=Ce.of_below hal
     clear hWA
     have hzA:=HZA.out
     have hD:∀b,(wL.heap.size<=b/\b<A.heap.size/\(Value.slice sA n sc).ownBlock≠some b)->wL.heap.size<=b/\b<WA.heap.size/\(Value.slice sA n sc).ownBlock≠some b:=λb hd=>⟨hd.1,ω,hd.2.2⟩
     have hsA:=HSEGS.out
     have hgA:=HSG1.out
     have hbxA:=(hal.block _ hBA).trans HBOX.out
     rw[<-hn0] at hsA hgA
     obtain⟨hb1,hP,hBe⟩:=Cc.appendedD (ss:=(Pe pts ts).take k) (ss':=[sg]) hbxA ω ω (by rw[<-hn0];exact hrowA) ((hsA.keep λb o hd=>hal.cell (p:=⟨b,o,none⟩) hd.2.1).more hD) (Gp.one ((hgA.keep λb o hd=>hal.cell (p:=⟨b,o,none⟩) hd.2.1).more hD)) (by rw[<-hn0];exact hown1) hg1 hat
     rw[<-HNX.out] at hP
     obtain⟨A2,c2,hv2⟩:=hP.slice
     have hlen1:((Pe pts ts).take (k+1)).length=k+1:=by rw[List.length_take,My];omega
     rw[hlen1] at hv2
     subst hv2
     clear hlen1
     have hrc:∀(j:Nat) (o:Obj),(Value.slice sA n sc).ownBlock=some j->WA.heap[j]?=some o->o.isCells=true:=by
      intro j o hj ho
      rcases hrowA.2 with⟨e,_⟩|⟨g',cap,cur,e,_,hg',_⟩
      · rw[e] at hj;cases hj
      · rw[e] at hj;simp[Value.ownBlock] at hj;subst hj;rw[hg'] at ho;cases ho;rfl
     have hrl:∀r,(Value.slice sA n sc).ownBlock=some r->wL.heap.size<=r:=λr hr=>(hrowA.lt r hr).1
     have c1:w1.cell? ⟨wr.heap.size,0,none⟩=some (.slice sA n sc):=by simp[World.cell?,hb1]
     have f1:w1.frozen? ⟨wr.heap.size,0,none⟩=false:=by simp[World.frozen?,hb1]
     have HP:=Δ hP
     have HHAT:=Δ hat
     have HGR:=Δ hg1
     have HRC:=Δ hrc
     have HKO:=Δ hKO
     have HKP:=Δ hKP
     have HRL:=Δ hrl
     have HAL:=Δ hal
     clear hP hat hg1 hrc hKO hKP hrl hal hown1 hb1 hrowA hsA hgA hbxA hD hn0 hrow
     gi_wp2_with (rw[Oper.semAt_eq _ _ _ (λc h=>by cases h)];go_simp)
     refine⟨(HKO.out.trans (KeepsOthers.of_grownBy HGR.out HRC.out)).trans (KeepsOthers.setCell _ _ _),?_,_,⟨HP.out,?_⟩,?_⟩
     ·
      have k1:Ce (λb=>b=wr.heap.size\/(Value.slice sA n sc).ownBlock=some b) A WA:=Ce.of_below HAL.out
      have k2:Ce (λb=>b=wr.heap.size\/(Value.slice sA n sc).ownBlock=some b) WA w1:=⟨HGR.out.os,HGR.out.tape,HGR.out.output,HGR.out.size,λb hb hn=>HGR.out.block b hb (λe=>hn (.inr e.symm))⟩
      have:=(k1.trans k2).trans (Ce.setCell w1 ⟨wr.heap.size,0,none⟩ (.slice A2 (k+1) c2) (.inl rfl))
      rw[HN0.out] at this
      exact this
     ·
      have k1:=HT2.out.keep.trans HKP.out
      exact(Nv k1 HGR.out HRL.out).trans (Ce.setCell _ _ _ rfl)
     ·
      have h:=HHAT.out
      rw[HN0.out] at h
      rintro b (rfl|hb)
      · exact .inl (.inl rfl)
      ·
       rcases h with h|h
       · exact .inl (.inr (h.symm.trans hb))
       ·
        rw[h] at hb
        injection hb with hb
        exact .inr ω
    case hdone=>
     rintro D sv A hD hI hdA
     have hown:=hI.own
     have hkeep:=hI.keep
     have e1:(Pe pts ts).take (pts.length-1)=Pe pts ts:=by rw[List.take_of_length_le (by rw[My];exact Nat.le_refl _)]
     rw[e1] at hown
     obtain⟨sA,sc,rfl⟩:=hown.slice
     have hcell:=hown.cell
     have hfro:=hown.frozen 0
     have hlA:=My pts ts
     rw[hlA] at hcell
     have HOW:=Δ hown
     have HKE:=Δ hkeep
     have HLA:=Δ hlA
     have HDA:=Δ hdA
     clear hI hown hkeep e1 hlA hdA
     go_wp2_with fail
     refine Jr [D] (.of _) (by simp) (by simpa using HDA.out) λW' hk hz=>?_
     refine⟨.tuple #[.slice sA (pts.length-1) sc,.int .i64 0],by simp[results,results144,go_sem],sA,sc,rfl,?_,?_⟩
     ·
      have:=HOW.out.at_
      rw[HLA.out] at this
      refine(Cq.keepS this λb o u h1 h2 hu=>?_).more ?_ ?_
      ·
       by_cases e:b=D
       · subst e;simp[World.cell?,HDA.out] at hu
       · exact(hk.cell h2 (by simpa using e)).trans hu
      · have:=HBW.out.size;omega
      · rw[hz];exact Nat.le_refl _
     ·
      have k1:=HKE.out
      have k2:=HBW.out
      refine⟨hk.os.trans (k1.os.trans k2.os),hk.tape.trans (k1.tape.trans k2.tape),hk.output.trans (k1.output.trans k2.output),by rw[hz];have:=k1.size;have:=k2.size;omega,λb hb=>?_⟩
      have:=k1.size
      exact(hk.block b ω (by simp;omega)).trans ((k1.block b ω ω).trans (k2.block b hb))
    case hstop=>rintro D c A _ h _;exact h.elim
def V3.up (a:V3) (r:Int):V3:=⟨a.x,a.y,a.z+r⟩
def Agm (a b:V3) (r:Int):List V3:=[a,a.up r,b.up r,b]
def cS (f t:Int):List Int:=[f,f+(t-f)/4,t-(t-f)/4,t]
def oK (a b:V3) (r f t:Int):List Sg:=Pe (Agm a b r) (cS f t)
theorem sM (a b:V3) (r f t:Int):(oK a b r f t).length=3:=by unfold oK;rw[My];rfl
theorem Agn {x y z x' y' z' r f t:Int} (hv:Yq ⟨x,y,z⟩ ⟨x',y',z'⟩ f t=true) (hq:(t-f)%4=0) (h1:Wk x y (z+r)=true) (h2:Wk x' y' (z'+r)=true):AmL (Agm ⟨x,y,z⟩ ⟨x',y',z'⟩ r) (cS f t):=by
 unfold Yq Hh at hv
 simp only[Bool.and_eq_true,decide_eq_true_eq] at hv
 obtain⟨⟨⟨⟨p1,p2⟩,t1⟩,t2⟩,t3⟩:=hv
 intro k hk
 have hk4:k<4:=hk
 match k,hk4 with
 |0,_=>exact⟨p1,by simp[cS];omega,by simp[cS];omega⟩
 |1,_=>exact⟨h1,by simp[cS];omega,by simp[cS];omega⟩
 |2,_=>exact⟨h2,by simp[cS];omega,by simp[cS];omega⟩
 |3,_=>exact⟨p2,by simp[cS];omega,by simp[cS];omega⟩
theorem Ako (x y z x' y' z' r f t:Int) (w:World) (hv:Yq ⟨x,y,z⟩ ⟨x',y',z'⟩ f t=true) (hq:(t-f)%4=0) (hr: -2097152<=r/\r<=2097152) (h1:Wk x y (z+r)=true) (h2:Wk x' y' (z'+r)=true):
  Calls Tryz.prog 122 #[.agg #[.int .i64 x,.int .i64 y,.int .i64 z],.agg #[.int .i64 x',.int .i64 y',.int .i64 z'],.int .i64 r,.int .i64 f,.int .i64 t] w λe w'=>∃A c,e= .returned (.tuple #[.slice A 3 c,.int .i64 0])/\
   Cq w' w.heap.size w'.heap.size (.slice A 3 c) (oK ⟨x,y,z⟩ ⟨x',y',z'⟩ r f t)/\Below w.heap.size w w':=by
 have hv':=hv
 unfold Yq Hh at hv'
 simp only[Bool.and_eq_true,decide_eq_true_eq] at hv'
 obtain⟨⟨⟨⟨p1,p2⟩,t1⟩,t2⟩,t3⟩:=hv'
 have b1:=(Mr _ _ _).1 p1
 have b2:=(Mr _ _ _).1 p2
 obtain⟨r1,r2⟩:=hr
 obtain⟨_,_,z1,z2⟩:=b1
 obtain⟨_,_,z3,z4⟩:=b2
 have q4:¬(4*((t-f)/4)≠t-f):=by omega
 have HV:=Δ hv
 have H1:=Δ h1
 have H2:=Δ h2
 have P1:=Δ p1
 have P2:=Δ p2
 have HQ:=Δ hq
 clear hv h1 h2 p1 p2 hq
 go_enter func122,ntmps122
 go_wp2_with fail
 refine(Ua _ _ _ _ _ _ _ _ _).mono ?_
 rintro e w1 ⟨rfl,hb⟩
 rw[show Hh x y z x' y' z' f t=true from HV.out]
 have hz:=hb.size
 have hB:=((Ψ.alloc ζ _).alloc (by simp) _).trans (hb.mono (show w.heap.size<=_ by simp;omega))
 obtain⟨hc,hf⟩:=Gl hb
 simp at hz hc hf
 have hz0:w.heap.size<w1.heap.size:=by omega
 have hz1:w.heap.size+1<w1.heap.size:=by omega
 go_wp2_with fail
 go_region
 all_goals
  go_wp2_with fail
  refine(Gg _ _ _ _).mono ?_
  rintro e w2 ⟨rfl,hb2⟩
  rw[H1.out]
  have hz2:=hb2.size
  obtain⟨hc2,hf2⟩:=Gl hb2
  simp at hz2 hc2
  have hB2:=((((Below.refl _ w1).alloc ζ _).alloc (by simp) _).drew).trans (hb2.mono (show w1.heap.size<=_ by simp;omega))
  clear hb2 hf2
  have y0:w.heap.size<w1.heap.size+1+1:=by omega
  have y1:w.heap.size+1<w1.heap.size+1+1:=by omega
  have y2:w.heap.size<w1.heap.size+1:=by omega
  have y3:w.heap.size+1<w1.heap.size+1:=by omega
  go_wp2_with fail
  refine(Gg _ _ _ _).mono ?_
  rintro e w3 ⟨rfl,hb3⟩
  rw[H2.out]
  have hz3:=hb3.size
  have y4:w1.heap.size+1<w2.heap.size:=by omega
  have y5:w1.heap.size<w2.heap.size:=by omega
  have y6:w.heap.size<w2.heap.size:=by omega
  have y7:w.heap.size+1<w2.heap.size:=by omega
  obtain⟨hc3,hf3⟩:=Gl hb3
  have hB3:=hB.trans ((hB2.trans (hb3.mono hB2.size)).mono hB.size)
  clear hb3 hf3
  go_wp2_with fail
  have hA:Below w.heap.size w ((w3.alloc (.cells #[.int .i64 x,.int .i64 y,.int .i64 z,.int .i64 x,.int .i64 y,.int .i64 (z+r),.int .i64 x',.int .i64 y',.int .i64 (z'+r),.int .i64 x',.int .i64 y',.int .i64 z'] 33)).alloc (.cells #[.int .i64 f,.int .i64 (f+(t-f)/4),.int .i64 (t-(t-f)/4),.int .i64 t] 3)):=(hB3.alloc hB3.size _).alloc (by simp;have:=hB3.size;omega) _
  refine(AiS (Agm ⟨x,y,z⟩ ⟨x',y',z'⟩ r) (cS f t) _ _ _ ?_ ?_ rfl (show 2<=4 by decide) (show 4<=257 by decide) ?_).mono ?_
  · exact(Bv.new1 w3 (Iz (Agm ⟨x,y,z⟩ ⟨x',y',z'⟩ r)) 4 _ 0 (w3.heap.size+1) 3 33 rfl rfl Ω ω).below (Ψ.alloc (by simp) _) |>.more ζ (by simp)
  · exact(Bv.new1 _ (Ib (cS f t)) 4 _ 0 _ 1 3 rfl (by simp) Ω (by simp))
  · exact Agn HV.out HQ.out H1.out H2.out
  rintro e w4 ⟨A,c,rfl,hp,hb4⟩
  have e3:(Agm ⟨x,y,z⟩ ⟨x',y',z'⟩ r).length-1=3:=rfl
  rw[e3] at hp ⊢
  have hBe:=hA.trans (hb4.mono hA.size)
  have HP:=Δ hp
  clear hc hc2 hc3 hp hb4 e3
  go_wp2_with fail
  go_ret2
  exact⟨_,_,rfl,HP.out.more hA.size ζ,hBe⟩
def Un (a b:V3) (wait flight rise start len:Int):List Sg:=
 if flight=0 then Io a a start (start+len) 0
 else Io a a start (start+wait) 0++(if 0<rise then oK a b rise (start+wait) (start+wait+flight) else Io a b (start+wait) (start+wait+flight) 2)++Io b b (start+wait+flight) (start+len) 0
theorem iJ {a b:V3} {wait flight rise start len:Int} (h:flight=0\/rise<=0):Un a b wait flight rise start len=cH a b wait flight start len:=by
 unfold Un cH
 split
 rfl
 rw[if_neg ω]
theorem AdX (a b:V3) (wait flight rise start len:Int):(Un a b wait flight rise start len).length<=5:=by
 unfold Un
 split
 exact Nat.le_trans (Lm _ _ _ _ _) ω
 have h1:=Lm a a start (start+wait) 0
 have h2:=Lm a b (start+wait) (start+wait+flight) 2
 have h3:=Lm b b (start+wait+flight) (start+len) 0
 have h4:=sM a b rise (start+wait) (start+wait+flight)
 simp only[List.length_append]
 split<;>omega
theorem Aea (x y z x' y' z' wait flight rise start len:Int) (w:World) (hf:0<flight/\flight<=3600000) (hr:0<rise/\rise<=2097152) (hq:flight%4=0) (ha:Wk x y z=true) (hb':Wk x' y' z'=true) (h1:Wk x y (z+rise)=true) (h2:Wk x' y' (z'+rise)=true) (hend:start+wait+flight<=3600000) (hs:0<=start/\start<=3600000) (hl:0<=len/\len<=3600000) (hw:0<=wait/\wait<=3600000):
  Calls Tryz.prog 96 #[.agg #[.int .i64 x,.int .i64 y,.int .i64 z],.agg #[.int .i64 x',.int .i64 y',.int .i64 z',.int .i64 wait,.int .i64 flight,.int .i64 rise],.int .i64 start,.int .i64 len] w λe w'=>∃v,e= .returned v/\Cq w' w.heap.size w'.heap.size v (Un ⟨x,y,z⟩ ⟨x',y',z'⟩ wait flight rise start len)/\Below w.heap.size w w':=by
 obtain⟨r1,r2⟩:=hr
 have HS:Hid (Un ⟨x,y,z⟩ ⟨x',y',z'⟩ wait flight rise start len=Io ⟨x,y,z⟩ ⟨x,y,z⟩ start (start+wait) 0++oK ⟨x,y,z⟩ ⟨x',y',z'⟩ rise (start+wait) (start+wait+flight)++Io ⟨x',y',z'⟩ ⟨x',y',z'⟩ (start+wait+flight) (start+len) 0):=by unfold Hid Un;rw[if_neg ω,if_pos r1]
 have HV:Hid (Yq ⟨x,y,z⟩ ⟨x',y',z'⟩ (start+wait) (start+wait+flight)=true):=by
  unfold Hid Yq Hh
  simp only[Bool.and_eq_true,decide_eq_true_eq]
  exact⟨⟨⟨⟨ha,hb'⟩,ω⟩,ω⟩,hend⟩
 have HQ:Hid ((start+wait+flight-(start+wait))%4=0):=by unfold Hid;omega
 have H1:=Δ h1
 have H2:=Δ h2
 clear h1 h2 ha hb' hq
 obtain⟨i0,hi0,hz0,hz1,hz2⟩:=info_parts Us
 obtain⟨f1,f2⟩:=hf
 have hfb:(flight==0)=false:=beq_eq_false_iff_ne.2 ω
 obtain⟨s1,s2⟩:=hs
 obtain⟨l1,l2⟩:=hl
 obtain⟨w1,w2⟩:=hw
 go_enter func96,ntmps96
 go_wp2_with fail
 refine(Uw _ _ _ _ _ _ (w.heap.size+1+1+1) _ [] _ (Cc.new _ _ _ (by simp)) ω (by simp) (by simp)).mono ?_
 rintro e wa ⟨sv,rfl,hP,hb⟩
 obtain⟨A,c,hsv⟩:=hP.slice
 subst hsv
 have hz:=hb.size
 have hB:Below w.heap.size w wa:=(((Ψ.alloc ζ _).alloc (by simp) _).alloc (by simp;omega) _).trans (hb.mono ω)
 obtain⟨hc,hfz⟩:=Gl hb
 simp only[World.size_alloc] at hz
 go_wp2_with fail
 refine(mI _ _ _ _ _ _ _ _ _).mono ?_
 intro e wg h
 obtain⟨Ag,cg,q,rfl,hpg,hbg,hqg⟩:=h.both
 have hBg:=hB.trans (hbg.mono hB.size)
 have hPg:=hP.up hbg
 have hcg:∀b o,b<w.heap.size+1+1->wg.cell? ⟨b,o,none⟩=_:=λb o h=>(hbg.cell (p:=⟨b,o,none⟩) (show b<_ by omega)).trans (hc b o h)
 have hzg:=hbg.size
 have hrl:∀g,(Value.slice A ([]++Io ⟨x,y,z⟩ ⟨x,y,z⟩ start (start+wait) 0).length c).ownBlock=some g->g<wg.heap.size:=by
  intro g hg
  obtain⟨_,hr0,_⟩:=hP.row
  have:=(hr0.lt g hg).2
  omega
 clear h hqg hpg hc hfz hP hB hbg
 have HRL:=Δ hrl
 clear hrl
 go_wp2_with fail
 refine(Ako _ _ _ _ _ _ _ _ _ _ HV.out HQ.out ⟨ω,r2⟩ H1.out H2.out).mono ?_
 rintro e wb ⟨A1,c1,rfl,hp,hb1⟩
 have hP:=hPg
 have hB:=hBg
 have hc:=hcg
 clear hPg hBg hcg
 have hPb:=hP.up hb1
 have hBb:=hB.trans (hb1.mono hB.size)
 have hc1:∀b o,b<w.heap.size+1+1->wb.cell? ⟨b,o,none⟩=_:=λb o h=>(hb1.cell (p:=⟨b,o,none⟩) (show b<_ by omega)).trans (hc b o h)
 have hcell:=hPb.cell
 have hfro:=hPb.frozen 0
 obtain⟨cs,hrow,hsegs⟩:=hPb.row
 obtain⟨news,hsn,hgn⟩:=hp
 have hl1:=Lm ⟨x,y,z⟩ ⟨x,y,z⟩ start (start+wait) 0
 have hl2:(oK ⟨x,y,z⟩ ⟨x',y',z'⟩ rise (start+wait) (start+wait+flight)).length<=3:=by rw[sM];omega
 have hrl:=HRL.out
 have hzb:=hb1.size
 generalize hF1:Io ⟨x,y,z⟩ ⟨x,y,z⟩ start (start+wait) 0=L1 at*
 generalize hF2:oK ⟨x,y,z⟩ ⟨x',y',z'⟩ rise (start+wait) (start+wait+flight)=L2 at*
 clear hF1 hF2 hc
 simp only[List.nil_append] at*
 go_wp2_with (at_builtin;refine Fr rfl (.tmp 62) (.tmp 63) 89 rfl (w.heap.size+1+1+1) 141 i0 _ 6 96 underlying89 hi0 hz0 hz1 hz2 rfl δ _ _ _ rfl hrow _ _ _ _ rfl hsn hgn.oneCell ?_ ?_ ?_ ?_)
 · unfold maxLen;omega
 · omega
 · omega
 intro v' wc hown hg hat
 obtain⟨hbc,hPc,hBe⟩:=Cc.appended hPb.box ω ω hrow hsegs hgn ω hrl hown hg hat
 obtain⟨A2,c2,hv2⟩:=hPc.slice
 rw[List.length_append] at hv2
 subst hv2
 have hcc:wc.cell? ⟨w.heap.size+1+1,0,none⟩=some (.slice A L1.length c):=by simp[World.cell?,hbc]
 have hfc:wc.frozen? ⟨w.heap.size+1+1,0,none⟩=false:=by simp[World.frozen?,hbc]
 have hcs:∀b o,b<w.heap.size+1+1->(wc.setCell ⟨w.heap.size+1+1,0,none⟩ (.slice A2 (L1.length+L2.length) c2)).cell? ⟨b,o,none⟩=_:=λb o h=>(hBe.cell (p:=⟨b,o,none⟩) (show b<_ by omega)).trans (hc1 b o h)
 have hBc:=hBb.trans (hBe.mono ω)
 have hzc:=hBe.size
 clear hcell hfro hown hg hat hbc hc1
 go_wp2_with fail
 refine(Uw _ _ _ _ _ _ (w.heap.size+1+1+1) _ (L1++L2) _ hPc ω ω (by simp;omega)).mono ?_
 rintro e wd ⟨sv,rfl,hPd,hbd⟩
 obtain⟨A3,c3,hsv⟩:=hPd.slice
 subst hsv
 have hcell:=hPd.cell
 have hfro:=hPd.frozen 0
 have hBd:=hBc.trans (hbd.mono ω)
 clear hcs hcc hfc
 go_wp2
 refine bodyPost_ret (v:= .slice A3 (L1++L2++Io ⟨x',y',z'⟩ ⟨x',y',z'⟩ (start+wait+flight) (start+len) 0).length c3) (by simp[results,results96,go_sem,hcell]) rfl ?_
 rw[HS.out]
 exact iK hPd.at_ ω ω hBd
def tpB (a b:V3) (wait flight rise start len:Int):Bool:=Wk a.x a.y a.z&&decide (1<=len)&&cY len&&cY start&&mvB a.x a.y a.z b.x b.y b.z wait flight rise len
def tpE (a b:V3) (wait flight rise start len:Int):Int:=if tpB a b wait flight rise start len=true then (if cY (start+len)=true then 0 else 3) else 2
def tpL (a b:V3) (wait flight rise start len:Int):List Sg:=if tpE a b wait flight rise start len=0 then Un a b wait flight rise start len else []
def AaX (w:World) (a b:V3) (wait flight rise start len:Int) (e:Ending) (w':World):Prop:=
 ∃A c,e= .returned (.tuple #[.slice A (tpL a b wait flight rise start len).length c,.int .i64 (tpE a b wait flight rise start len)])/\Cq w' w.heap.size w'.heap.size (.slice A (tpL a b wait flight rise start len).length c) (tpL a b wait flight rise start len)/\Below w.heap.size w w'
theorem jE {w:World} {a b:V3} {wait flight rise start len:Int} {w':World} (h:¬tpE a b wait flight rise start len=0) (hb:Below w.heap.size w w') {q:Int} (hq:tpE a b wait flight rise start len=q):
  AaX w a b wait flight rise start len (.returned (.tuple #[.slice none 0 0,.int .i64 q])) w':=by
 unfold AaX
 have e:tpL a b wait flight rise start len=[]:=by unfold tpL;rw[if_neg h]
 rw[e,hq]
 exact⟨none,0,rfl,Cq.nil _ _,hb⟩
theorem Ame (n:Int) (w:World) (h:cY n=false):Calls Tryz.prog 94 #[.int .i64 n] w λe w'=>e= .returned (.bool false)/\w=w':=
 (Zt n w).mono λe w' ⟨he,hw⟩=>⟨by rw[he,h],hw⟩
theorem uN {fx fy fz tx ty tz wait flight rise len:Int} (h:mvB fx fy fz tx ty tz wait flight rise len=true):(0<=wait/\wait<=3600000)/\(0<=flight/\flight<=3600000)/\(0<=rise/\rise<=3600000):=by
 unfold mvB at h
 simp only[Bool.and_eq_true,Pt] at h
 exact⟨h.1.1.1.1.2,h.1.1.1.2,h.1.1.2⟩
theorem Aiv (x y z x' y' z' wait flight rise start len:Int) (w:World) (ha:Wk x y z=true) (hm:mvB x y z x' y' z' wait flight rise len=true) (hs:0<=start/\start<=3600000) (hl:0<=len/\len<=3600000) (hend:start+len<=3600000):
  Calls Tryz.prog 96 #[.agg #[.int .i64 x,.int .i64 y,.int .i64 z],.agg #[.int .i64 x',.int .i64 y',.int .i64 z',.int .i64 wait,.int .i64 flight,.int .i64 rise],.int .i64 start,.int .i64 len] w λe w'=>∃v,e= .returned v/\Cq w' w.heap.size w'.heap.size v (Un ⟨x,y,z⟩ ⟨x',y',z'⟩ wait flight rise start len)/\Below w.heap.size w w':=by
 obtain⟨hw,hf,hr⟩:=uN hm
 by_cases h0:flight=0
 rw[iJ (.inl h0)];exact Aap x y z x' y' z' wait flight rise start len w h0 hs hl hw
 by_cases h1:rise<=0
 rw[iJ (.inr h1)];exact AdZ x y z x' y' z' wait flight rise start len w ω h1 hs hl hw
 unfold mvB at hm
 rw[if_neg h0,if_pos ω] at hm
 simp only[Bool.and_eq_true,decide_eq_true_eq] at hm
 obtain⟨⟨⟨⟨⟨hb,_⟩,_⟩,_⟩,hle⟩,⟨hq,g1⟩,g2⟩:=hm
 have b1:=(Mr _ _ _).1 ha
 have b2:=(Mr _ _ _).1 g1
 exact Aea x y z x' y' z' wait flight rise start len w ⟨ω,hf.2⟩ ⟨ω,ω⟩ hq ha hb g1 g2 ω hs hl hw
theorem Ae4 (x y z x' y' z' wait flight rise start len:Int) (w:World):
  Calls Tryz.prog 66 #[.agg #[.int .i64 x,.int .i64 y,.int .i64 z],.agg #[.int .i64 x',.int .i64 y',.int .i64 z',.int .i64 wait,.int .i64 flight,.int .i64 rise],.int .i64 start,.int .i64 len] w (AaX w ⟨x,y,z⟩ ⟨x',y',z'⟩ wait flight rise start len):=by
 by_cases hT:tpB ⟨x,y,z⟩ ⟨x',y',z'⟩ wait flight rise start len=true
 ·
  have HT:=Δ hT
  unfold tpB at hT
  simp only[Bool.and_eq_true,decide_eq_true_eq,Pt] at hT
  obtain⟨⟨⟨⟨h1,l0⟩,l1,l2⟩,s1,s2⟩,hm⟩:=hT
  have H1:=Δ h1
  have HM:=Δ hm
  have hp:=uN hm
  obtain⟨⟨q1,q2⟩,⟨q3,q4⟩,q5,q6⟩:=hp
  clear h1 hm
  by_cases hE:start+len<=3600000
  ·
   have HE0:Hid (tpE ⟨x,y,z⟩ ⟨x',y',z'⟩ wait flight rise start len=0):=by unfold Hid tpE;rw[if_pos HT.out,if_pos ((Pt _).2 ω)]
   go_enter func66,ntmps66
   go_wp2_with fail
   refine(Gg _ _ _ _).mono ?_
   rintro e wa ⟨rfl,hb⟩
   rw[H1.out]
   have hz:=hb.size
   have hB:=((Ψ.alloc ζ _).alloc (by simp) _).trans (hb.mono (show w.heap.size<=_ by simp;omega))
   obtain⟨hc,hfz⟩:=Gl hb
   simp at hz hc
   go_wp2_with (first
    |(
     go_at_call 94
     refine(jC _ _ ?_).mono ?_
     · omega
     rintro e w' ⟨rfl,rfl⟩)
    |(
     go_at_call 95
     refine(Uh _ _ _ _ _ _ _ _ _ _ _ H1.out).mono ?_
     rintro e wb ⟨rfl,hb2⟩
     rw[HM.out]
     have hB:=hB.trans (hb2.mono hB.size)
     have hc2:∀b o,b<w.heap.size+1+1->wb.cell? ⟨b,o,none⟩=_:=λb o h=>hb2.cell (p:=⟨b,o,none⟩) (show b<_ by omega))
    |(
     go_at_call 96
     refine(Aiv _ _ _ _ _ _ _ _ _ _ _ _ H1.out HM.out ?_ ?_ ?_).mono ?_
     · omega
     · omega
     · omega
     rintro e wc ⟨v,rfl,hpa,hb3⟩
     obtain⟨A,c,rfl⟩:=hpa.slice))
   go_ret2
   have eL:tpL ⟨x,y,z⟩ ⟨x',y',z'⟩ wait flight rise start len=Un ⟨x,y,z⟩ ⟨x',y',z'⟩ wait flight rise start len:=by unfold tpL;rw[if_pos HE0.out]
   unfold AaX
   rw[eL,HE0.out]
   exact⟨A,c,rfl,hpa.more hB.size ζ,hB.trans (hb3.mono hB.size)⟩
  ·
   have HE0:Hid (tpE ⟨x,y,z⟩ ⟨x',y',z'⟩ wait flight rise start len=3):=by unfold Hid tpE;rw[if_pos HT.out,if_neg (by rw[Pt];omega)]
   have hEf:cY (start+len)=false:=by
    cases h:cY (start+len)
    · rfl
    · rw[Pt] at h;omega
   have HEf:=Δ hEf
   clear hEf
   go_enter func66,ntmps66
   go_wp2_with fail
   refine(Gg _ _ _ _).mono ?_
   rintro e wa ⟨rfl,hb⟩
   rw[H1.out]
   have hz:=hb.size
   have hB:=((Ψ.alloc ζ _).alloc (by simp) _).trans (hb.mono (show w.heap.size<=_ by simp;omega))
   obtain⟨hc,hfz⟩:=Gl hb
   simp at hz hc
   go_wp2_with (first
    |(
     go_at_call 94
     refine(jC _ _ ?_).mono ?_
     · omega
     rintro e w' ⟨rfl,rfl⟩)
    |(
     go_at_call 94
     refine(Ame _ _ HEf.out).mono ?_
     rintro e w' ⟨rfl,rfl⟩)
    |(
     go_at_call 95
     refine(Uh _ _ _ _ _ _ _ _ _ _ _ H1.out).mono ?_
     rintro e wb ⟨rfl,hb2⟩
     rw[HM.out]
     have hB:=hB.trans (hb2.mono hB.size)))
   all_goals first
    |(exfalso;omega)
    |(go_ret2;exact jE (by rw[HE0.out];omega) hB HE0.out)
 ·
  have HE0:Hid (tpE ⟨x,y,z⟩ ⟨x',y',z'⟩ wait flight rise start len=2):=by unfold Hid tpE;rw[if_neg hT]
  cases h1:Wk x y z
  ·
   have H1:=Δ h1
   clear h1 hT
   go_enter func66,ntmps66
   go_wp2_with fail
   refine(Gg _ _ _ _).mono ?_
   rintro e wa ⟨rfl,hb⟩
   rw[H1.out]
   have hB:=((Ψ.alloc ζ _).alloc (by simp) _).trans (hb.mono (show w.heap.size<=_ by simp;omega))
   go_wp2_with fail
   go_ret2
   exact jE (by rw[HE0.out];omega) hB HE0.out
  ·
   have H1:=Δ h1
   have HN:Hid (¬(1<=len/\cY len=true/\cY start=true/\mvB x y z x' y' z' wait flight rise len=true)):=by
    intro hh
    refine hT ?_
    unfold tpB
    simp[h1,hh.1,hh.2.1,hh.2.2.1,hh.2.2.2]
   clear h1 hT
   go_enter func66,ntmps66
   go_wp2_with fail
   refine(Gg _ _ _ _).mono ?_
   rintro e wa ⟨rfl,hb⟩
   rw[H1.out]
   have hz:=hb.size
   have hB:=((Ψ.alloc ζ _).alloc (by simp) _).trans (hb.mono (show w.heap.size<=_ by simp;omega))
   obtain⟨hc,hfz⟩:=Gl hb
   simp at hz hc
   go_wp2_with (first
    |(
     go_at_call 94
     refine(Zt _ _).mono ?_
     rintro e w' ⟨rfl,rfl⟩)
    |(
     go_at_call 95
     refine(Uh _ _ _ _ _ _ _ _ _ _ _ H1.out).mono ?_
     rintro e wb ⟨rfl,hb2⟩
     have hB:=hB.trans (hb2.mono hB.size)))
   all_goals first
    |(exfalso;exact HN.out ⟨by assumption,by assumption,by assumption,by simpa using ‹(!mvB x y z x' y' z' wait flight rise len)=false›⟩)
    |(go_ret2;exact jE (by rw[HE0.out];omega) hB HE0.out)
def Ac.none:Ac:=⟨ByteArray.empty,0,[]⟩
def Mv.none:Mv:=⟨V3.zero,0,0,0⟩
def Gs (p:Pr) (k:Nat) (start:Int) (i:Nat):List Sg:=
 tpL ((Fk p k).getD i V3.zero) (((p.acts.getD k Ac.none).moves.getD i Mv.none).to) ((p.acts.getD k Ac.none).moves.getD i Mv.none).wait ((p.acts.getD k Ac.none).moves.getD i Mv.none).flight ((p.acts.getD k Ac.none).moves.getD i Mv.none).rise start (p.acts.getD k Ac.none).len
def Um (p:Pr) (k:Nat) (start:Int) (i:Nat):Int:=
 tpE ((Fk p k).getD i V3.zero) (((p.acts.getD k Ac.none).moves.getD i Mv.none).to) ((p.acts.getD k Ac.none).moves.getD i Mv.none).wait ((p.acts.getD k Ac.none).moves.getD i Mv.none).flight ((p.acts.getD k Ac.none).moves.getD i Mv.none).rise start (p.acts.getD k Ac.none).len
def Yc (lo:Nat) (p:Pr) (k:Nat) (start:Int) (i:Nat) (W:World) (args:Array Value):Prop:=
 ∃A c,args=#[.slice A (Gs p k start i).length c,.int .i64 (Um p k start i)]/\Cq W lo W.heap.size (.slice A (Gs p k start i).length c) (Gs p k start i)
def sH (lo:Nat) (L:List Sg):Value->World->Prop:=λv w=>∃A c,v= .slice A L.length c/\Cq w lo w.heap.size (.slice A L.length c) L
def Agh (lo:Nat) (L:List Sg) (E:Int):Value->World->Prop:=λv w=>∃u,v= .tuple #[u,.int .i64 E]/\sH lo L u w
theorem Zh (lo:Nat) (L:List Sg):Qb (sH lo L):=λ_ _ _ hb ⟨A,c,e,h⟩=>⟨A,c,e,h.up hb⟩
theorem vX (lo:Nat) (L:List Sg) (E:Int):Qb (Agh lo L E):=λ_ _ _ hb ⟨u,e,h⟩=>⟨u,e,Zh lo L _ _ _ hb h⟩
theorem All {P:Program} {ops:Array Oper} {n:Nat} {C:World->Prop} {R:Nat->Value->World->Prop} {a0:Act} {Q:Exit->Act->World->Prop} {i:Nat} {o:Oper} (t lo:Nat) (L:List Sg) (E:Int) (ho:o.op= .extract (.tmp t) 0) (hx:Jt ops n R a0 (.tmp t)=Agh lo L E) (hr:R i=sH lo L):Mk P ops n C R a0 Q i o:=
 Lu λa w hC hpre=>by
  have:=hpre (.tmp t) (by rw[ho];simp[Op.operands])
  rw[hx] at this
  obtain⟨u,e,h⟩:=this
  exact⟨u,by simp[execOp,ho,e,Instr.extract],by rw[hr];exact h⟩
theorem Alm {P:Program} {ops:Array Oper} {n:Nat} {C:World->Prop} {R:Nat->Value->World->Prop} {a0:Act} {Q:Exit->Act->World->Prop} {i:Nat} {o:Oper} (t lo:Nat) (L:List Sg) (E:Int) (ho:o.op= .extract (.tmp t) 1) (hx:Jt ops n R a0 (.tmp t)=Agh lo L E) (hr:R i=is (.int .i64 E)):Mk P ops n C R a0 Q i o:=
 Lu λa w hC hpre=>by
  have:=hpre (.tmp t) (by rw[ho];simp[Op.operands])
  rw[hx] at this
  obtain⟨u,e,h⟩:=this
  exact⟨.int .i64 E,by simp[execOp,ho,e,Instr.extract],by rw[hr];rfl⟩
theorem Alf (w:World):(sizeOf 93).run Tryz.prog w= .ok 6 w:=κ
theorem iL (w0:World) (Bp Ba Bt:Nat) (vn vh va:Value) (p:Pr) (k:Nat) (start:Int) (T:Nat->Prop) (hTw:∀b,T b->b<w0.heap.size) (lo:Nat) (hlo:lo<=w0.heap.size) (hT0:∀b,b<lo->T b) (hTp:T Bp) (hTa:T Ba) (hTt:T Bt)
  (hcp:w0.heap[Bp]?=some (.cells #[vn,vh,va] 31 (0,0))) (hca:w0.cell? ⟨Ba,0,none⟩=some (.int .i64 (k:Nat))) (hct:w0.cell? ⟨Bt,0,none⟩=some (.int .i64 start))
  (hp:Hx w0 lo vn vh va p) (hk:k<p.acts.length) (hh:0<p.homes.length) (hm:p.homes.length<=1000000) (hb:p.acts.length<=1000000) (hmv:∀a∈p.acts,a.moves.length<=1000000)
  (hlen:(p.acts.getD k Ac.none).moves.length=(Fk p k).length):
  Ac6 64 #[.pointer (some ⟨Bp,0,none⟩),.pointer (some ⟨Ba,0,none⟩),.pointer (some ⟨Bt,0,none⟩)] (Fk p k).length (λlo=>Yc lo p k start) T w0:=by
 intro l σ J Pv Jx W s0 hbW hJg hlt hTP hY hJ0
 refine callsIn_wide.2 ?_
 have hpW:=hp.below (hbW.mono hlo)
 obtain⟨cs,ha,hacts⟩:=hpW.acts
 obtain⟨ba,oa,ca,ea,_,hba,hcac⟩:=ha.pos ω
 obtain⟨vm,hvm,hcm⟩:=hacts.at_ hk
 have a0:=hcac _ _ (hcm 0 _ rfl)
 have a1:=hcac _ _ (hcm 1 _ rfl)
 have a2:=hcac _ _ (hcm 2 _ rfl)
 have gA:p.acts.getD k Ac.none=p.acts[k]:=by simp[hk]
 obtain⟨An,cn,rfl⟩:=hpW.names.slice
 obtain⟨Ah,ch,rfl⟩:=hpW.homes.slice
 obtain⟨Am,cm,rfl⟩:=hvm.slice
 cases ea
 rw[<-Nat.add_assoc] at a1 a2
 simp only[Nat.add_zero] at a0
 have hBpl:=hTw _ hTp
 have hbp:W.heap[Bp]?=some (.cells #[.slice An p.names.length cn,.slice Ah p.homes.length ch,.slice (some ⟨ba,oa,none⟩) p.acts.length ca] 31 (0,0)):=(hbW.block _ hBpl).trans hcp
 have q0:W.cell? ⟨Bp,0,none⟩=some (.slice An p.names.length cn):=by simp[World.cell?,hbp]
 have q1:W.cell? ⟨Bp,1,none⟩=some (.slice Ah p.homes.length ch):=by simp[World.cell?,hbp]
 have q2:W.cell? ⟨Bp,2,none⟩=some (.slice (some ⟨ba,oa,none⟩) p.acts.length ca):=by simp[World.cell?,hbp]
 have q3:W.cell? ⟨Ba,0,none⟩=some (.int .i64 (k:Nat)):=(hbW.cell (p:=⟨Ba,0,none⟩) (hTw _ hTa)).trans hca
 have q4:W.cell? ⟨Bt,0,none⟩=some (.int .i64 start):=(hbW.cell (p:=⟨Bt,0,none⟩) (hTw _ hTt)).trans hct
 have hN:(Fk p k).length<=1000000:=by rw[<-hlen,gA];exact hmv _ (List.getElem_mem hk)
 have HGA:=Δ gA
 have HL:=Δ hlen
 have HJg:=Δ hJg
 have Hlt:=Δ hlt
 have HTP:=Δ hTP
 have HY:=Δ hY
 have HTw:=Δ hTw
 have HT0:=Δ hT0
 have HMV:=Δ hmv
 clear hlen hJg hlt hTP hY hTw hT0 hcac hcm hcp hca hct gA hbp hmv
 show Calls Tryz.prog 64 #[.func (.yield l) #[] #[],.pointer (some ⟨Bp,0,none⟩),.pointer (some ⟨Ba,0,none⟩),.pointer (some ⟨Bt,0,none⟩)] W _
 go_enter func64,ntmps64
 have hWz:=hbW.size
 have z1:Bp<W.heap.size:=by omega
 have z2:Ba<W.heap.size:=by have:=HTw.out _ hTa;omega
 have z3:Bt<W.heap.size:=by have:=HTw.out _ hTt;omega
 have z4:ba<W.heap.size:=by omega
 go_wp2_with fail
 refine(jX p k _ _ _ _ ?_ hh hm ω hb HMV.out).mono ?_
 · exact(hpW.more (Nat.le_trans hlo hWz)).below (Ψ.alloc ζ _) |>.more (by simp)
 rintro e wF ⟨vf,rfl,hvf,hbF⟩
 obtain⟨Af,cf,rfl⟩:=hvf.slice
 have hzF:=hbF.size
 simp only[World.size_alloc] at hzF
 have hbF0:Below W.heap.size W wF:=(Ψ.alloc ζ _).trans (hbF.mono (by simp))
 have hJF:J s0 0 wF:=HJg.out s0 0 W wF hJ0 ⟨hbF0.os,hbF0.tape,hbF0.output,hbF0.size,λi hi _=>hbF0.block i hi⟩
 have HKS0:Hid (∀b,b<wF.heap.size->(T b\/W.heap.size<=b)->¬Pv s0 b):=λb hb hor hpv=>by
  rcases hor with h|h
  · exact HTP.out s0 0 W b hJ0 h hpv
  · have:=Hlt.out s0 0 W b hJ0 hpv;omega
 go_wp2_with fail
 go_loopw [6,7,17] (λ_ _ q wr=>∃(i:Nat) (s:σ),i<=(Fk p k).length/\q= .int .i64 (i:Nat)/\J s i wr/\Hid (∀b,b<wF.heap.size->(T b\/W.heap.size<=b)->wr.heap[b]?=wF.heap[b]?/\¬Pv s b)/\wF.heap.size<=wr.heap.size) (λ_ _ q _=>(Fk p k).length-(intOf q).toNat)
 case atStart=>exact⟨0,s0,Nat.zero_le _,rfl,hJF,λb hb hor=>⟨rfl,HKS0.out b hb hor⟩,Nat.le_refl _⟩
 case round=>
  obtain⟨i,s,hi,rfl,hJ,HK,hwz⟩:=hrel
  by_cases hlt:i<(Fk p k).length
  ·
   obtain⟨bf,of,cf',ef,hbf1,hbf2,hcf⟩:=hvf.pos ω
   have hcfw:∀j u,(Iz (Fk p k))[j]?=some u->wr.cell? ⟨bf,of+j,none⟩=some u:=λj u hu=>(World.cell?_of_block (a:=⟨bf,of+j,none⟩) (HK.out bf hbf2 (.inr (by simp at hbf1;omega))).1).trans (hcf j u hu)
   have v0:=hcfw _ _ (Mu _ i hlt 0 _ rfl)
   have v1:=hcfw _ _ (Mu _ i hlt 1 _ rfl)
   have v2:=hcfw _ _ (Mu _ i hlt 2 _ rfl)
   rw[<-Nat.add_assoc] at v1 v2
   simp only[Nat.add_zero] at v0
   have gF:(Fk p k)[i]=(Fk p k).getD i V3.zero:=by simp[hlt]
   rw[gF] at v0 v1 v2
   have HLM:Hid (p.acts[k].moves.length=(Fk p k).length):=by have:=HL.out;rw[HGA.out] at this;exact this
   have hiM:i<p.acts[k].moves.length:=by have:=HLM.out;omega
   obtain⟨bm,om,cm',em,hbm1,hbm2,hcm⟩:=Bv.pos hvm ω
   have KW:Hid (∀b o,T b->wr.cell? ⟨b,o,none⟩=W.cell? ⟨b,o,none⟩):=λb o hb=>by
    have hb':=HTw.out b hb
    have h1:=(HK.out b ω (.inl hb)).1
    exact(World.cell?_of_block (a:=⟨b,o,none⟩) h1).trans (hbF0.cell (p:=⟨b,o,none⟩) (show b<_ by omega))
   have KA:Hid (∀o,wr.cell? ⟨W.heap.size,o,none⟩=(W.alloc (.cells #[.string p.acts[k].name,.int .i64 p.acts[k].len,.slice Am p.acts[k].moves.length cm] 61)).cell? ⟨W.heap.size,o,none⟩):=λo=>by
    have h1:=(HK.out W.heap.size ω (.inr ζ)).1
    exact(World.cell?_of_block (a:=⟨W.heap.size,o,none⟩) h1).trans (hbF.cell (p:=⟨W.heap.size,o,none⟩) (show W.heap.size<_ by simp))
   have gM:p.acts[k].moves[i]=p.acts[k].moves.getD i Mv.none:=by simp[hiM]
   obtain⟨L,hLd⟩:∃L,L=Gs p k start i:=⟨_,rfl⟩
   obtain⟨E,hEd⟩:∃E,E=Um p k start i:=⟨_,rfl⟩
   have HLd:=Δ hLd
   have HEd:=Δ hEd
   have hL2:Hid (L=tpL ((Fk p k).getD i V3.zero) (p.acts[k].moves.getD i Mv.none).to (p.acts[k].moves.getD i Mv.none).wait (p.acts[k].moves.getD i Mv.none).flight (p.acts[k].moves.getD i Mv.none).rise start p.acts[k].len):=by unfold Hid;rw[hLd,Gs,HGA.out]
   have hE2:Hid (E=tpE ((Fk p k).getD i V3.zero) (p.acts[k].moves.getD i Mv.none).to (p.acts[k].moves.getD i Mv.none).wait (p.acts[k].moves.getD i Mv.none).flight (p.acts[k].moves.getD i Mv.none).rise start p.acts[k].len):=by unfold Hid;rw[hEd,Um,HGA.out]
   have MC0:Hid (∀j u,[Value.int .i64 (p.acts[k].moves.getD i Mv.none).to.x,.int .i64 (p.acts[k].moves.getD i Mv.none).to.y,.int .i64 (p.acts[k].moves.getD i Mv.none).to.z,.int .i64 (p.acts[k].moves.getD i Mv.none).wait,.int .i64 (p.acts[k].moves.getD i Mv.none).flight,.int .i64 (p.acts[k].moves.getD i Mv.none).rise][j]?=some u->wr.cell? ⟨bm,om+i*6+j,none⟩=some u):=λj u hu=>by
    rw[KW.out bm _ (HT0.out bm hbm2),Nat.add_assoc]
    refine hcm _ u (Ui _ i hiM j u ?_)
    rw[gM];exact hu
   cases em
   clear hcm hcf hcfw hLd hEd gF gM hvm hacts hpW ha hp hvf
   generalize hMM:p.acts[k].moves=M at*
   generalize hLn:p.acts[k].len=Ln at*
   generalize hNm:p.acts[k].name=Nm at*
   generalize hFV:(Fk p k).getD i V3.zero=fv at*
   generalize hMV:M.getD i Mv.none=mv at*
   have HFV:=Δ hFV
   have HMV2:=Δ hMV
   have HMM:=Δ hMM
   have HLn:=Δ hLn
   have HNm:=Δ hNm
   clear hFV hMV hMM hLn hNm
   have HB:Hid (bm<w0.heap.size):=Nat.lt_of_lt_of_le hbm2 hlo
   obtain⟨WR,hWR⟩:∃WR,WR=wr.alloc (.cells #[.int .i64 fv.x,.int .i64 fv.y,.int .i64 fv.z] 33):=⟨_,rfl⟩
   have hzR:WR.heap.size=wr.heap.size+1:=by rw[hWR];simp
   have old:Hid (∀wa,Below WR.heap.size WR wa->∀b o,b<wr.heap.size->wa.cell? ⟨b,o,none⟩=wr.cell? ⟨b,o,none⟩):=λwa hC b o hb=>by
    refine(hC.cell (p:=⟨b,o,none⟩) (show b<_ by omega)).trans ?_
    rw[hWR];exact World.cell?_alloc_lt wr _ ⟨b,o,none⟩ hb
   have VC:Hid (∀wa,Below WR.heap.size WR wa->∀j u,[Value.int .i64 fv.x,.int .i64 fv.y,.int .i64 fv.z][j]?=some u->wa.cell? ⟨wr.heap.size,0+j,none⟩=some u):=λwa hC j u hu=>by
    refine(hC.cell (p:=⟨wr.heap.size,0+j,none⟩) (show wr.heap.size<_ by omega)).trans ?_
    rw[hWR];simp[hu]
   have AC1:Hid (∀wa,Below WR.heap.size WR wa->wa.cell? ⟨W.heap.size,1,none⟩=some (.int .i64 Ln)):=λwa hC=>by rw[old.out wa hC _ _ ω,KA.out];simp
   have AC2:Hid (∀wa,Below WR.heap.size WR wa->wa.cell? ⟨W.heap.size,2,none⟩=some (.slice (some ⟨bm,om,none⟩) M.length cm)):=λwa hC=>by rw[old.out wa hC _ _ ω,KA.out];simp
   have MC:Hid (∀wa,Below WR.heap.size WR wa->∀j u,[Value.int .i64 mv.to.x,.int .i64 mv.to.y,.int .i64 mv.to.z,.int .i64 mv.wait,.int .i64 mv.flight,.int .i64 mv.rise][j]?=some u->wa.cell? ⟨bm,om+i*6+j,none⟩=some u):=λwa hC j u hu=>by
    rw[old.out wa hC _ _ (by have:=HB.out;omega)];exact MC0.out j u hu
   have TC:Hid (∀wa,Below WR.heap.size WR wa->wa.cell? ⟨Bt,0,none⟩=some (.int .i64 start)):=λwa hC=>by
    have:=HTw.out _ hTt
    rw[old.out wa hC _ _ ω,KW.out _ _ hTt];exact q4
   have CALL:Hid (∀wa,Below WR.heap.size WR wa->Calls Tryz.prog 66 #[.agg #[.int .i64 fv.x,.int .i64 fv.y,.int .i64 fv.z],.agg #[.int .i64 mv.to.x,.int .i64 mv.to.y,.int .i64 mv.to.z,.int .i64 mv.wait,.int .i64 mv.flight,.int .i64 mv.rise],.int .i64 start,.int .i64 Ln] wa λe w'=>∃v,e= .returned v/\Below WR.heap.size WR w'/\Below wa.heap.size wa w'/\Agh wr.heap.size L E v w'):=λwa hC=>by
    refine(Ae4 _ _ _ _ _ _ _ _ _ _ _ wa).mono ?_
    rintro e w' ⟨A,c,he,hpa,hbb⟩
    rw[hL2.out,hE2.out]
    have:=hC.size
    exact⟨_,he,hC.trans (hbb.mono hC.size),hbb,_,rfl,A,c,rfl,hpa.more ω ζ⟩
   have HzR:=Δ hzR
   have HWR:=Δ hWR
   clear hzR hWR
   go_wp2
   rw[<-HWR.out]
   refine Wl 13 38 (λw'=>Below WR.heap.size WR w') [is (.func (.yield l) #[] #[]),is (.agg #[.int .i64 fv.x,.int .i64 fv.y,.int .i64 fv.z]),is (.pointer (some ⟨W.heap.size,2,none⟩)),is (.slice (some ⟨bm,om,none⟩) M.length cm),is (.int .i64 (i:Nat)),is (.pointer (some ⟨bm,om+i*6,none⟩)),is (.agg #[.int .i64 mv.to.x,.int .i64 mv.to.y,.int .i64 mv.to.z,.int .i64 mv.wait,.int .i64 mv.flight,.int .i64 mv.rise]),is (.int .i64 start),is (.pointer (some ⟨W.heap.size,1,none⟩)),is (.int .i64 Ln),Agh wr.heap.size L E,sH wr.heap.size L,is (.int .i64 E)] κ κ rfl δ ?hst ?h0 ?hop ?htail
   case hst=>
    simp only[List.mem_cons,List.mem_nil_iff,or_false,forall_eq_or_imp,forall_eq]
    exact⟨Ak _,Ak _,Ak _,Ak _,Ak _,Ak _,Ak _,Ak _,Ak _,Ak _,vX _ _ _,Zh _ _,Ak _⟩
   case h0=>exact Ψ.drew
   case hop=>
    refine⟨?_,?_,?_,?_,?_,?_,?_,?_,?_,?_,?_,?_,?_,trivial⟩
    · exact Fa (.tmp 0) (is (.func (.yield l) #[] #[])) rfl κ (λ_ _ _ h=>h)
    · exact Ez 33 (.tmp 7) (.pointer (some ⟨wr.heap.size,0,none⟩)) (.agg #[.int .i64 fv.x,.int .i64 fv.y,.int .i64 fv.z]) rfl κ (λwa hC=>Nd [.int .i64 fv.x,.int .i64 fv.y,.int .i64 fv.z] wa (isAgg33 wa) κ (VC.out wa hC)) rfl
    · exact Lt 61 (.tmp 5) 2 (.pointer (some ⟨W.heap.size,0,none⟩)) (.pointer (some ⟨W.heap.size,2,none⟩)) rfl κ (λw=>by kernel_rfl) rfl
    · exact Ez 59 (.tmp 24) (.pointer (some ⟨W.heap.size,2,none⟩)) (.slice (some ⟨bm,om,none⟩) M.length cm) rfl κ (λwa hC=>Cp wa (isAgg59 wa) (AC2.out wa hC)) rfl
    · exact Fa (.tmp 6) (is (.int .i64 (i:Nat))) rfl κ (λ_ _ _ h=>h)
    · exact Rh 59 93 25 26 bm om M.length cm 6 (i:Int) i rfl κ κ underlying59 Alf rfl ω rfl
    · exact Ez 93 (.tmp 27) (.pointer (some ⟨bm,om+i*6,none⟩)) (.agg #[.int .i64 mv.to.x,.int .i64 mv.to.y,.int .i64 mv.to.z,.int .i64 mv.wait,.int .i64 mv.flight,.int .i64 mv.rise]) rfl κ (λwa hC=>Nd [.int .i64 mv.to.x,.int .i64 mv.to.y,.int .i64 mv.to.z,.int .i64 mv.wait,.int .i64 mv.flight,.int .i64 mv.rise] wa (isAgg93 wa) κ (MC.out wa hC)) rfl
    · exact Ez 3 (.tmp 3) (.pointer (some ⟨Bt,0,none⟩)) (.int .i64 start) rfl κ (λwa hC=>Cp wa (isAgg3 wa) (TC.out wa hC)) rfl
    · exact Lt 61 (.tmp 5) 1 (.pointer (some ⟨W.heap.size,0,none⟩)) (.pointer (some ⟨W.heap.size,1,none⟩)) rfl κ (λw=>by kernel_rfl) rfl
    · exact Ez 3 (.tmp 30) (.pointer (some ⟨W.heap.size,1,none⟩)) (.int .i64 Ln) rfl κ (λwa hC=>Cp wa (isAgg3 wa) (AC1.out wa hC)) rfl
    · exact Rg 66 [.tmp 23,.tmp 28,.tmp 29,.tmp 31] _ [.agg #[.int .i64 fv.x,.int .i64 fv.y,.int .i64 fv.z],.agg #[.int .i64 mv.to.x,.int .i64 mv.to.y,.int .i64 mv.to.z,.int .i64 mv.wait,.int .i64 mv.flight,.int .i64 mv.rise],.int .i64 start,.int .i64 Ln] rfl (λ_ _=>by kernel_rfl) ⟨κ,κ,κ,κ,trivial⟩ CALL.out
    · exact All 32 wr.heap.size L E rfl κ rfl
    · exact Alm 32 wr.heap.size L E rfl κ rfl
   case htail=>
    intro τ w2 hC hR
    have r0:τ 0= .func (.yield l) #[] #[]:=hR 0 δ
    have r12:τ 12= .int .i64 E:=hR 12 δ
    obtain⟨A,c,ep,hpth⟩:sH wr.heap.size L (τ 11) w2:=hR 11 δ
    have hz2:=hC.size
    have hzW:=HzR.out
    have hbb:Below wr.heap.size wr w2:=by
     have h1:Below wr.heap.size wr WR:=by rw[HWR.out];exact Ψ.alloc ζ _
     exact h1.trans (hC.mono ω)
    have hJ2:J s i w2:=HJg.out s i wr w2 hJ ⟨hbb.os,hbb.tape,hbb.output,hbb.size,λi hi _=>hbb.block i hi⟩
    have hitem:Yc wr.heap.size p k start i w2 #[τ 11,τ 12]:=⟨A,c,by rw[ep,r12,HLd.out,HEd.out],by rw[<-HLd.out];exact hpth⟩
    simp only[Dk,List.getElem?_toArray,List.getElem?_cons_succ,List.getElem?_cons_zero,Option.bind_some,Act.put,List.setIfInBounds_toArray,List.set_cons_succ,List.set_cons_zero,List.drop_succ_cons,List.drop_zero]
    refine Ve rfl (.tmp 22) #[.tmp 33,.tmp 34] _ l #[τ 11,τ 12] rfl (show τ 0=_ from r0) (by simp[Act.eval]) (HY.out s i wr w2 _ ω ω hJ hbb hJ2 hitem) ?_
    intro e w3 hE
    rcases hE with⟨rfl,s',hJ3,hkp,hpv⟩|⟨rfl,hJx⟩
    ·
     refine⟨_,rfl,Mw rfl (.bool false) (by simp[execOp,go_sem,Act.eval,Act.put]) ?_⟩
     have hK3:Hid (∀b,b<wF.heap.size->(T b\/W.heap.size<=b)->w3.heap[b]?=wF.heap[b]?/\¬Pv s' b):=λb hb hor=>by
      have hk:=HK.out b hb hor
      refine⟨(hkp.block b ω hk.2).trans ((hbb.block b ω).trans hk.1),λhp'=>?_⟩
      rcases hpv b hp' with h|h
      · exact hk.2 h
      · omega
     have hz3:wF.heap.size<=w3.heap.size:=Nat.le_trans hwz (Nat.le_trans hbb.size hkp.size)
     clear hJ hJ2 hitem hR hC hkp hpv HK VC AC1 AC2 MC TC CALL KW KA old
     simp only[Act.put,List.setIfInBounds_toArray,List.set_cons_succ,List.set_cons_zero,wpListIn]
     go_wp2
     go_roundw
     case rel=>exact⟨i+1,s',ω,by go_num,hJ3,hK3,hz3⟩
     case measure=>simp[intOf];omega
    ·
     refine⟨_,rfl,Mw rfl (.bool true) (by simp[execOp,go_sem,Act.eval,Act.put]) ?_⟩
     clear hJ hJ2 hitem hR hC HK VC AC1 AC2 MC TC CALL KW KA old
     simp only[Act.put,List.setIfInBounds_toArray,List.set_cons_succ,List.set_cons_zero,wpListIn]
     go_wp2
     refine bodyPost_ret (results_none rfl _ _ _) rfl ?_
     exact⟨⟨_,rfl⟩,.inr hJx⟩
  ·
   have hkN:i=(Fk p k).length:=by omega
   have HKN:=Δ hkN
   clear hkN
   go_wp2
   go_end0
   exact⟨⟨_,rfl⟩,.inl ⟨s,by rw[<-HKN.out];exact hJ⟩⟩
theorem nD (vn vh va:Value) (k start:Int) (w:World):
  Calls Tryz.prog 42 #[.agg #[vn,vh,va],.int .i64 k,.int .i64 start] w λe w'=>∃Bp Ba Bt,e= .returned (.func (.func 64) #[] #[.pointer (some ⟨Bp,0,none⟩),.pointer (some ⟨Ba,0,none⟩),.pointer (some ⟨Bt,0,none⟩)])/\Below w.heap.size w w'/\w.heap.size<=Bp/\w.heap.size<=Ba/\w.heap.size<=Bt/\Bp<w'.heap.size/\Ba<w'.heap.size/\Bt<w'.heap.size/\
   w'.heap[Bp]?=some (.cells #[vn,vh,va] 31 (0,0))/\w'.cell? ⟨Ba,0,none⟩=some (.int .i64 k)/\w'.cell? ⟨Bt,0,none⟩=some (.int .i64 start):=by
 go_enter func42,ntmps42
 go_wp2_with fail
 go_ret
 refine⟨_,_,_,rfl,?_,Nat.le_refl _,ω,ω,?_,?_,?_,?_,?_,?_⟩
 · exact((Ψ.alloc ζ _).alloc (by simp) _).alloc (by simp;omega) _
 · simp;omega
 · simp
 · simp
 · rw[Below.heap_alloc _ _ _ (by simp;omega),Below.heap_alloc _ _ _ (by simp)];exact World.alloc_heap_new _ _
 · rw[World.cell?_alloc_past _ _ _ (by simp),World.cell?_alloc_at _ _ _ _ (by simp)];rfl
 · rw[World.cell?_alloc_at _ _ _ _ (by simp)];rfl
def Dy (p:Pr) (k:Nat) (start:Int) (m:List Int):Nat->Option (List Int)
 |0=>some m
 |i+1=>match Dy p k start m i with
  |none=>none
  |some l=>if Um p k start i=0/\l.getD i 0+(Gs p k start i).length<=256 then some (l.set i (l.getD i 0+(Gs p k start i).length)) else none
def Kl (p:Pr):Nat->Option (Int×List Int)
 |0=>some (0,List.replicate p.names.length 0)
 |k+1=>match Kl p k with
  |none=>none
  |some (t,m)=>
   if Rf (p.acts.getD k Ac.none).name=true/\1<=(p.acts.getD k Ac.none).len/\(p.acts.getD k Ac.none).len<=3600000-t/\(p.acts.getD k Ac.none).moves.length=p.names.length then
    match Dy p k t m p.names.length with
    |none=>none
    |some m'=>some (t+(p.acts.getD k Ac.none).len,m')
   else none
def Ef (p:Pr):Bool:=Ts p.names p.homes&&decide (p.acts.length<=60)&&(Kl p p.acts.length).isSome
theorem aS (p:Pr) (k:Nat) (start:Int) (i:Nat):(Gs p k start i).length<=5:=by
 unfold Gs tpL
 split
 exact AdX _ _ _ _ _ _ _
 simp
theorem uK {p:Pr} {k:Nat} {start:Int} {m:List Int} {i:Nat} (h:Dy p k start m i=none):∀j,i<=j->Dy p k start m j=none:=by
 intro j hj
 induction j with
 |zero=>
  have:i=0:=by omega
  rw[this] at h;exact h
 |succ j ih=>
  by_cases hij:i=j+1
  rw[<-hij];exact h
  unfold Dy;rw[ih ω]
theorem Sk {p:Pr} {k:Nat} {start:Int} {m:List Int} (hm:∀x∈m,0<=x/\x<=256):∀{i:Nat} {l:List Int},Dy p k start m i=some l->l.length=m.length/\∀x∈l,0<=x/\x<=256
 |0,l,h=>by cases h;exact⟨rfl,hm⟩
 |i+1,l,h=>by
  unfold Dy at h
  split at h
  cases h
  rename_i l' hl'
  obtain⟨h1,h2⟩:=Sk hm hl'
  split at h
  rename_i hc
  cases h
  refine⟨by simp[h1],λx hx=>?_⟩
  rcases List.mem_or_eq_of_mem_set hx with hx|rfl
  exact h2 x hx
  have:0<=l'.getD i 0:=by
   by_cases hi:i<l'.length
   simp only[Γ,List.getElem?_eq_getElem hi,Option.getD_some];exact(h2 _ (List.getElem_mem hi)).1
   simp[List.getElem?_eq_none (Nat.le_of_not_lt hi)]
  omega
  cases h
theorem AeE {p:Pr} {i:Nat} (h:Kl p i=none):∀j,i<=j->Kl p j=none:=by
 intro j hj
 induction j with
 |zero=>
  have:i=0:=by omega
  rw[this] at h;exact h
 |succ j ih=>
  by_cases hij:i=j+1
  rw[<-hij];exact h
  unfold Kl;rw[ih ω]
theorem Of {p:Pr}:∀{k:Nat} {t:Int} {m:List Int},Kl p k=some (t,m)->0<=t/\t<=3600000/\m.length=p.names.length/\(∀x∈m,0<=x/\x<=256)/\∀j,j<k->(p.acts.getD j Ac.none).moves.length=p.names.length
 |0,t,m,h=>by
  unfold Kl at h;cases h
  exact⟨ω,ω,by simp,λx hx=>by rw[List.eq_of_mem_replicate hx];omega,λj hj=>by omega⟩
 |k+1,t,m,h=>by
  unfold Kl at h
  split at h
  cases h
  rename_i t' m' hu
  obtain⟨h1,h2,h3,h4,h5⟩:=Of hu
  split at h
  rename_i hc
  split at h
  cases h
  rename_i m2 hm2
  cases h
  obtain⟨g1,g2⟩:=Sk h4 hm2
  refine⟨ω,ω,g1.trans h3,g2,λj hj=>?_⟩
  by_cases hjk:j=k
  rw[hjk];exact hc.2.2.2
  exact h5 j ω
  cases h
theorem Adn {p:Pr} {k:Nat} {t:Int} {m:List Int} (hh:p.homes.length=p.names.length) (h:Kl p k=some (t,m)):(Fk p k).length=p.names.length:=by
 unfold Fk
 split
 exact hh
 rw[List.length_map];exact(Of h).2.2.2.2 (k-1) ω
def Ph (m:List Int):Array Value:=(m.map (Value.int .i64)).toArray
theorem AhR (m:List Int) (i:Nat) (h:i<m.length):(Ph m)[i]?=some (.int .i64 (m.getD i 0)):=by simp[Ph,h]
theorem AdC (m:List Int) (i:Nat) (x:Int):(Ph m).setIfInBounds i (.int .i64 x)=Ph (m.set i x):=by simp[Ph,List.map_set]
theorem Ad8 (n:Nat):madeCells (Value.int .i64 0).cells (n*1)=Ph (List.replicate n 0):=by
 apply Array.ext
 simp[madeCells,Ph]
 intro i h1 h2
 simp[madeCells,Ph,Value.cells,Nat.mod_one]
theorem AdA (n:Nat) (hn:n<=1000000) (w:World):
  (Instr.makeSlice 95 (.int .i64 (n:Nat)) (.int .i64 (n:Nat))).run Tryz.prog w= .ok (.slice (some ⟨w.heap.size,0,none⟩) n n) (w.alloc (.cells (Ph (List.replicate n 0)) 3)):=by
 obtain⟨i0,hi0,hz0,hz1,hz2⟩:=info_parts tY
 have:=run_makeSlice w 95 3 i0 _ underlying95 hi0 hz0 .i64 .i64 (n:Nat) (n:Nat) ω ω (by rw[hz1];simp;omega) (by rw[hz2];omega) ω
 rw[this,hz1]
 simp only[Int.toNat_natCast,Ad8]
structure Ap3 (p:Pr) (W0:World) (n0 Bm:Nat) (rs:List Nat) (k:Nat) (t:Int) (m:List Int) (wr:World):Prop where
 up:Kl p k=some (t,m)
 le:k<=p.acts.length
 keep:Ce (λb=>b=n0+1\/b=Bm) W0 wr
 many:wr.heap[Bm]?=some (.cells (Ph m) 3 (0,0))
 res:∃v:Bool,wr.heap[n0+1]?=some (.cells #[.bool v] 4 (0,0))
 nodup:rs.Nodup
 marks:∀r∈rs,W0.heap.size<=r/\wr.heap[r]?=some (.deferred (some []))
theorem nP {w Wx:World} {rs:List Nat} {tmps:Array Value} {b:Bool} (h2:tmps[2]?=some (.pointer (some ⟨w.heap.size+1,0,none⟩))) (hc:Wx.cell? ⟨w.heap.size+1,0,none⟩=some (.bool b)) (hsz:w.heap.size+1<Wx.heap.size)
  (hb:Below w.heap.size w Wx) (hn:rs.Nodup) (hr:∀r∈rs,w.heap.size+2<=r/\Wx.heap[r]?=some (.deferred (some []))):
  bodyPostM Fence.wide 0 Tryz.prog Tryz.f29 (λe w'=>e= .returned (.bool b)/\Below w.heap.size w w') .ret ⟨tmps,rs.map Xi⟩ Wx:=by
 refine Jr rs (.of _) hn (λr h=>(hr r h).2) λW' hk hz=>⟨.bool b,?_,rfl,?_⟩
 ·
  have h:=hk.cell (b:=w.heap.size+1) (o:=0) hsz (λh=>by have:=(hr _ h).1;omega)
  rw[hc] at h
  simp[results,results29,go_sem,h,h2]
 ·
  refine⟨hk.os.trans hb.os,hk.tape.trans hb.tape,hk.output.trans hb.output,?_,λi hi=>?_⟩
  · rw[hz];exact hb.size
  ·
   have:=hb.size
   exact(hk.block i ω (λh=>by have:=(hr _ h).1;omega)).trans (hb.block i hi)
theorem Vv {w Wx:World} {rs:List Nat} {tmps:Array Value} {b:Bool} {rv:Value} (h2:tmps[2]?=some (.pointer (some ⟨w.heap.size+1,0,none⟩))) (hc:Wx.heap[w.heap.size+1]?=some (.cells #[rv] 4 (0,0)))
  (hb:Below w.heap.size w Wx) (hn:rs.Nodup) (hr:∀r∈rs,w.heap.size+2<=r/\Wx.heap[r]?=some (.deferred (some []))):
  bodyPostM Fence.wide 0 Tryz.prog Tryz.f29 (λe w'=>e= .returned (.bool b)/\Below w.heap.size w w') .ret ⟨tmps,rs.map Xi⟩ (Wx.setCell ⟨w.heap.size+1,0,none⟩ (.bool b)):=by
 have hk:=Ce.setCell (Pv:=λb=>b=w.heap.size+1) Wx ⟨w.heap.size+1,0,none⟩ (.bool b) rfl
 have hs:=(Ξ hc).1
 refine nP h2 ?_ (Nat.lt_of_lt_of_le hs hk.size) ⟨hk.os.trans hb.os,hk.tape.trans hb.tape,hk.output.trans hb.output,Nat.le_trans hb.size hk.size,λi hi=>?_⟩ hn λr hr'=>⟨(hr r hr').1,?_⟩
 have:=Ex Wx _ 0 _ _ _ (.bool b) hc
 simp[World.cell?,this]
 exact(hk.block i (Nat.lt_of_lt_of_le hi hb.size) ω).trans (hb.block i hi)
 have:=(hr r hr').1
 exact(hk.block r (Ξ (hr r hr').2).1 ω).trans (hr r hr').2
theorem wB {p:Pr} {j:Nat} (h:Kl p j=none) (hj:j<=p.acts.length):Ef p=false:=by
 unfold Ef;rw[AeE h _ hj];simp
theorem Ajb {p:Pr} {k:Nat} {t:Int} {m:List Int} (h:Kl p k=some (t,m))
  (hn:¬(Rf (p.acts.getD k Ac.none).name=true/\1<=(p.acts.getD k Ac.none).len/\(p.acts.getD k Ac.none).len<=3600000-t/\(p.acts.getD k Ac.none).moves.length=p.names.length)):Kl p (k+1)=none:=by
 unfold Kl;rw[h];simp only;rw[if_neg hn]
theorem AeD {p:Pr} {k:Nat} {t:Int} {m:List Int} (h:Kl p k=some (t,m)) (hn:Dy p k t m p.names.length=none):Kl p (k+1)=none:=by
 unfold Kl;rw[h];simp only;rw[hn];split<;>rfl
theorem AeC {p:Pr} {k:Nat} {t:Int} {m m':List Int} (h:Kl p k=some (t,m))
  (hg:Rf (p.acts.getD k Ac.none).name=true/\1<=(p.acts.getD k Ac.none).len/\(p.acts.getD k Ac.none).len<=3600000-t/\(p.acts.getD k Ac.none).moves.length=p.names.length)
  (hn:Dy p k t m p.names.length=some m'):Kl p (k+1)=some (t+(p.acts.getD k Ac.none).len,m'):=by
 unfold Kl;rw[h];simp only;rw[if_pos hg,hn]
theorem Aac {p:Pr} {k:Nat} {t:Int} {m l:List Int} {i:Nat} (h:Dy p k t m i=some l) (hn:¬(Um p k t i=0/\l.getD i 0+(Gs p k t i).length<=256)):Dy p k t m (i+1)=none:=by
 unfold Dy;rw[h];simp only;rw[if_neg hn]
theorem uJ {p:Pr} {k:Nat} {t:Int} {m l:List Int} {i:Nat} (h:Dy p k t m i=some l) (hn:Um p k t i=0/\l.getD i 0+(Gs p k t i).length<=256):Dy p k t m (i+1)=some (l.set i (l.getD i 0+(Gs p k t i).length)):=by
 unfold Dy;rw[h];simp only;rw[if_pos hn]
structure VIn (p:Pr) (k:Nat) (t:Int) (m:List Int) (wP:World) (B2 Bm B7:Nat) (s:List Int) (i:Nat) (A:World):Prop where
 eq:Dy p k t m i=some s
 keep:Ce (λb=>b=B2\/b=Bm\/b=B7) wP A
 many:A.heap[Bm]?=some (.cells (Ph s) 3 (0,0))
 cnt:A.heap[B7]?=some (.cells #[.int .i64 (i:Nat)] 3 (0,0))
 res:∃v:Bool,A.heap[B2]?=some (.cells #[.bool v] 4 (0,0))
theorem VIn.own {p:Pr} {k:Nat} {t:Int} {m:List Int} {wP:World} {B2 Bm B7:Nat} {s:List Int} {i:Nat} (h2:B2<wP.heap.size) (hm:Bm<wP.heap.size) (h7:B7<wP.heap.size):OwnFrom wP.heap.size (λ(_:Unit) A=>VIn p k t m wP B2 Bm B7 s i A):=by
 intro _ A B row h hg hr
 have hr':∀r,row=some r->wP.heap.size<=r:=λr e=>(hr r e).1
 obtain⟨v,hv⟩:=h.res
 exact⟨h.eq,Nv h.keep hg hr',Ks h.many hg hm hr',Ks h.cnt hg h7 hr',v,Ks hv hg h2 hr'⟩
structure Agi (wP:World) (B2 Bm B7:Nat) (A:World):Prop where
 keep:Ce (λb=>b=B2\/b=Bm\/b=B7) wP A
 res:A.heap[B2]?=some (.cells #[.bool false] 4 (0,0))
theorem Agi.own {wP:World} {B2 Bm B7:Nat} {c:Code} {C:Prop} (h2:B2<wP.heap.size):OwnFrom wP.heap.size (λ(_:Unit) A=>c= .ret/\C/\Agi wP B2 Bm B7 A):=by
 intro _ A B row ⟨hc,hC,h⟩ hg hr
 have hr':∀r,row=some r->wP.heap.size<=r:=λr e=>(hr r e).1
 exact⟨hc,hC,Nv h.keep hg hr',Ks h.res hg h2 hr'⟩
theorem AeF (p:Pr) (vn vh va:Value) (w:World) (hp:Hx w w.heap.size vn vh va p) (hsz:∀s∈p.names,s.size<=maxLen) (hsa:∀a∈p.acts,a.name.size<=maxLen) (hb:p.acts.length<=1000000) (hmv:∀a∈p.acts,a.moves.length<=1000000):
  Calls Tryz.prog 29 #[.agg #[vn,vh,va]] w λe w'=>e= .returned (.bool (Ef p))/\Below w.heap.size w w':=by
 obtain⟨An,cn,rfl⟩:=hp.names.slice
 obtain⟨Ah,ch,rfl⟩:=hp.homes.slice
 obtain⟨csA,ha,hacts⟩:=hp.acts
 obtain⟨Aa,ca,rfl⟩:=ha.slice
 have HSZ:=Δ hsz
 have HSA:=Δ hsa
 have HMV:=Δ hmv
 clear hsz hsa hmv
 refine Gy func29 rfl ?_
 simp only[ntmps29,List.size_toArray,List.length_cons,List.length_nil,Nat.reduceAdd,Nat.reduceSub,Array.replicate_succ,
   Array.replicate_zero,List.push_toArray,List.append_toArray,List.nil_append,List.cons_append]
 go_wp2_with fail
 obtain⟨W1,hW1⟩:∃W1,W1=(w.alloc (.cells #[.slice An p.names.length cn,.slice Ah p.homes.length ch,.slice Aa p.acts.length ca] 31)).alloc (.cells #[.bool false] 4):=⟨_,rfl⟩
 rw[<-hW1]
 have hz1:W1.heap.size=w.heap.size+2:=by rw[hW1];simp
 have hb1:Below w.heap.size w W1:=by rw[hW1];exact(Ψ.alloc ζ _).alloc (by simp) _
 have hB1:W1.heap[w.heap.size]?=some (.cells #[.slice An p.names.length cn,.slice Ah p.homes.length ch,.slice Aa p.acts.length ca] 31 (0,0)):=by rw[hW1,Below.heap_alloc _ _ _ (by simp)];exact World.alloc_heap_new _ _
 have hB2:W1.heap[w.heap.size+1]?=some (.cells #[.bool false] 4 (0,0)):=by rw[hW1];exact Gq _ _ _ (by simp)
 refine(AgD p.names p.homes _ _ _ _ ?_ ?_ ⟨_,_,_,rfl⟩ HSZ.out).mono ?_
 · exact(hp.names.below hb1).more ζ ω
 · exact(hp.homes.below hb1).more ζ ω
 rintro e wC ⟨rfl,hbC⟩
 have hzC:=hbC.size
 have hC1:=(hbC.block w.heap.size ω).trans hB1
 have hC2:=(hbC.block (w.heap.size+1) ω).trans hB2
 have hbC0:Below w.heap.size w wC:=hb1.trans (hbC.mono ω)
 have c0:wC.cell? ⟨w.heap.size,0,none⟩=some (.slice An p.names.length cn):=by simp[World.cell?,hC1]
 have c1:wC.cell? ⟨w.heap.size,1,none⟩=some (.slice Ah p.homes.length ch):=by simp[World.cell?,hC1]
 have c2:wC.cell? ⟨w.heap.size,2,none⟩=some (.slice Aa p.acts.length ca):=by simp[World.cell?,hC1]
 have c3:wC.cell? ⟨w.heap.size+1,0,none⟩=some (.bool false):=by simp[World.cell?,hC2]
 have c4:wC.frozen? ⟨w.heap.size+1,0,none⟩=false:=by simp[World.frozen?,hC2]
 clear hW1 hB1 hB2
 have HP:=Δ hp
 have HA:=Δ ha
 have HAC:=Δ hacts
 have HC1:=Δ hC1
 have HC2:=Δ hC2
 clear hp ha hacts hC1 hC2
 by_cases hcr:Ts p.names p.homes=true
 case neg=>
  have hcr:Ts p.names p.homes=false:=by simpa using hcr
  rw[hcr]
  have hv:Hid (Ef p=false):=by unfold Hid Ef;rw[hcr];simp
  clear hcr
  go_wp2_with fail
  rw[hv.out]
  exact Vv (rs:=[]) rfl HC2.out hbC0 (by simp) (by simp)
 case pos=>
 rw[hcr]
 have HCR:=Δ hcr
 have hnn:1<=p.names.length/\p.names.length<=64/\p.homes.length=p.names.length:=by unfold Ts at hcr;simp at hcr;omega
 have HNN:=Δ hnn
 have hmk:=AdA p.names.length ω wC
 have zA:w.heap.size<wC.heap.size:=by omega
 have zB:w.heap.size+1<wC.heap.size:=by omega
 have zA1:w.heap.size<wC.heap.size+1:=by omega
 have zB1:w.heap.size+1<wC.heap.size+1:=by omega
 clear hnn
 go_wp2_with fail
 ·
  rename_i hgt
  have hv:Ef p=false:=by unfold Ef;rw[decide_eq_false (show ¬p.acts.length<=60 by omega)];simp
  rw[hv]
  exact Vv (rs:=[]) rfl HC2.out hbC0 (by simp) (by simp)
 obtain⟨W0,hW0⟩:∃W0,W0=((wC.alloc (.cells (Ph (List.replicate p.names.length 0)) 3)).alloc (.cells #[.slice (some ⟨wC.heap.size,0,none⟩) p.names.length p.names.length] 95)):=⟨_,rfl⟩
 refine wp_loop (λa' w'=>a'.tmps.size=86/\∃(rs:List Nat) (k:Nat) (t:Int) (m:List Int),Ap3 p W0 w.heap.size wC.heap.size rs k t m w'/\a'.defers=rs.map Xi/\a'.tmps[1]?=some (.pointer (some ⟨w.heap.size,0,none⟩))/\a'.tmps[2]?=some (.pointer (some ⟨w.heap.size+1,0,none⟩))/\a'.tmps[3]?=some (.int .i64 t)/\a'.tmps[4]?=some (.pointer (some ⟨wC.heap.size+1,0,none⟩))/\a'.tmps[24]?=some (.slice Aa p.acts.length ca)/\a'.tmps[25]?=some (.int .i64 (p.acts.length:Nat))/\a'.tmps[26]?=some (.int .i64 (k:Nat)))
  (λa' w'=>p.acts.length-(intOf (a'.tmps.getD 26 undef)).toNat) ?_ ?_
 ·
  refine⟨rfl,[],0,0,List.replicate p.names.length 0,?_,rfl,rfl,rfl,rfl,rfl,rfl,rfl,rfl⟩
  rw[<-hW0]
  refine⟨rfl,Nat.zero_le _,Ce.refl _ _,?_,⟨false,?_⟩,by simp,by simp⟩
  · rw[hW0,Below.heap_alloc _ _ _ (by simp)];exact World.alloc_heap_new _ _
  · rw[hW0,Below.heap_alloc _ _ _ (by simp;omega),Below.heap_alloc _ _ _ ω];exact HC2.out
 ·
  rintro⟨tmps,defers⟩ wr ⟨hsz,rs,k,t,m,hL,hd,e1,e2,e3,e4,e24,e25,e26⟩
  dsimp only at hsz hd e1 e2 e3 e4 e24 e25 e26
  subst hd
  obtain⟨u,hu,htm⟩:=Uy tmps 86 hsz
  have f (i:Nat) (v:Value) (hi:i<86) (h:tmps[i]?=some v):u i=v:=by rw[hu i hi] at h;exact Option.some.inj h
  have g1:=f _ _ δ e1
  have g2:=f _ _ δ e2
  have g3:=f _ _ δ e3
  have g4:=f _ _ δ e4
  have g24:=f _ _ δ e24
  have g25:=f _ _ δ e25
  have g26:=f _ _ δ e26
  simp only[List.range,List.range.loop,List.map_cons,List.map_nil,g1,g2,g3,g4,g24,g25,g26] at htm
  subst htm
  clear hsz e1 e2 e3 e4 e24 e25 e26 hu f g1 g2 g3 g4 g24 g25 g26
  have hz0:W0.heap.size=wC.heap.size+2:=by rw[hW0];simp
  have hwz:=hL.keep.size
  have HL:=Δ hL
  have kb:Hid (∀b,b<W0.heap.size->b≠w.heap.size+1->b≠wC.heap.size->wr.heap[b]?=W0.heap[b]?):=λb hb h1 h2=>hL.keep.block b hb ω
  have k1:wr.heap[w.heap.size]?=some (.cells #[.slice An p.names.length cn,.slice Ah p.homes.length ch,.slice Aa p.acts.length ca] 31 (0,0)):=by
    rw[kb.out _ ω ω ω,hW0,Below.heap_alloc _ _ _ (by simp;omega),Below.heap_alloc _ _ _ ω];exact HC1.out
  have k4:wr.heap[wC.heap.size+1]?=some (.cells #[.slice (some ⟨wC.heap.size,0,none⟩) p.names.length p.names.length] 95 (0,0)):=by
    rw[kb.out _ ω ω ω,hW0];exact Gq _ _ _ (by simp)
  have HBR:Hid (Below w.heap.size w wr):=by
    refine⟨hL.keep.os.trans ?_,hL.keep.tape.trans ?_,hL.keep.output.trans ?_,ω,λb hb=>?_⟩
    · rw[hW0];exact hbC0.os
    · rw[hW0];exact hbC0.tape
    · rw[hW0];exact hbC0.output
    · rw[kb.out _ ω ω ω,hW0,Below.heap_alloc _ _ _ (by simp;omega),Below.heap_alloc _ _ _ ω];exact hbC0.block b hb
  have kp:Hid (Hx wr w.heap.size (.slice An p.names.length cn) (.slice Ah p.homes.length ch) (.slice Aa p.acts.length ca) p):=HP.out.below HBR.out
  have HMK:Hid (∀r∈rs,w.heap.size+2<=r/\wr.heap[r]?=some (.deferred (some []))):=λr hr=>⟨by have:=(hL.marks r hr).1;omega,(hL.marks r hr).2⟩
  have p0:wr.cell? ⟨w.heap.size,0,none⟩=some (.slice An p.names.length cn):=by simp[World.cell?,k1]
  have p1:wr.cell? ⟨w.heap.size,1,none⟩=some (.slice Ah p.homes.length ch):=by simp[World.cell?,k1]
  have p2:wr.cell? ⟨w.heap.size,2,none⟩=some (.slice Aa p.acts.length ca):=by simp[World.cell?,k1]
  have p4:wr.cell? ⟨wC.heap.size+1,0,none⟩=some (.slice (some ⟨wC.heap.size,0,none⟩) p.names.length p.names.length):=by simp[World.cell?,k4]
  obtain⟨rv,hrv⟩:=hL.res
  have p5:wr.cell? ⟨w.heap.size+1,0,none⟩=some (.bool rv):=by simp[World.cell?,hrv]
  have p6:wr.frozen? ⟨w.heap.size+1,0,none⟩=false:=by simp[World.frozen?,hrv]
  have K1:=Δ k1
  have K4:=Δ k4
  have HRV:=Δ hrv
  have hle:=hL.le
  have HW0:=Δ hW0
  clear k1 k4 hrv hL hW0 hmk c0 c1 c2 c3 c4
  by_cases hk:k<p.acts.length
  case neg=>
    have hkN:k=p.acts.length:=by omega
    have HkN:=Δ hkN
    clear hkN
    go_wp2_with fail
    have hv:Ef p=true:=by
     unfold Ef;rw[HCR.out,decide_eq_true (show p.acts.length<=60 by omega),<-HkN.out,HL.out.up];rfl
    rw[hv]
    exact Vv rfl HRV.out HBR.out HL.out.nodup HMK.out
  case pos=>
  obtain⟨csB,hsB,hactsB⟩:=kp.out.acts
  obtain⟨ba,oa,ca',ea,hba1,hba2,hcac⟩:=hsB.pos ω
  obtain⟨vm,hvm,hcm⟩:=hactsB.at_ hk
  have a0:=hcac _ _ (hcm 0 _ rfl)
  have a1:=hcac _ _ (hcm 1 _ rfl)
  have a2:=hcac _ _ (hcm 2 _ rfl)
  obtain⟨Am,cm,rfl⟩:=hvm.slice
  cases ea
  rw[<-Nat.add_assoc] at a1 a2
  simp only[Nat.add_zero] at a0
  have gA:Hid (p.acts.getD k Ac.none=p.acts[k]):=by simp[Hid,hk]
  have hsn:=HSA.out _ (List.getElem_mem hk)
  clear hcac hcm hactsB hsB hvm
  generalize hAC:p.acts[k]=ac at*
  have HACk:=Δ hAC
  clear hAC
  obtain⟨up1,up2,up3,up4,up5⟩:=Of HL.out.up
  have UP4:=Δ up4
  have UP5:=Δ up5
  clear up4 up5
  go_wp2_with fail
  obtain⟨WA,hWA⟩:∃WA,WA=wr.alloc (.cells #[.string ac.name,.int .i64 ac.len,.slice Am ac.moves.length cm] 61):=⟨_,rfl⟩
  rw[<-hWA]
  refine(Wn ac.name _ hsn).mono ?_
  rintro e w' ⟨rfl,rfl⟩
  have hzA:WA.heap.size=wr.heap.size+1:=by rw[hWA];simp
  have hbA:Below wr.heap.size wr WA:=by rw[hWA];exact Ψ.alloc ζ _
  have hA:WA.heap[wr.heap.size]?=some (.cells #[.string ac.name,.int .i64 ac.len,.slice Am ac.moves.length cm] 61 (0,0)):=by rw[hWA];exact World.alloc_heap_new _ _
  have HA0:=Δ hA
  have b0:WA.cell? ⟨wr.heap.size,0,none⟩=some (.string ac.name):=by simp[World.cell?,hA]
  have b1:WA.cell? ⟨wr.heap.size,1,none⟩=some (.int .i64 ac.len):=by simp[World.cell?,hA]
  have b2:WA.cell? ⟨wr.heap.size,2,none⟩=some (.slice Am ac.moves.length cm):=by simp[World.cell?,hA]
  have P0:WA.cell? ⟨w.heap.size,0,none⟩=some (.slice An p.names.length cn):=(hbA.cell (p:=⟨w.heap.size,0,none⟩) (show w.heap.size<_ by omega)).trans p0
  have P1:WA.cell? ⟨w.heap.size,1,none⟩=some (.slice Ah p.homes.length ch):=(hbA.cell (p:=⟨w.heap.size,1,none⟩) (show w.heap.size<_ by omega)).trans p1
  have P2:WA.cell? ⟨w.heap.size,2,none⟩=some (.slice (some ⟨ba,oa,none⟩) p.acts.length ca):=(hbA.cell (p:=⟨w.heap.size,2,none⟩) (show w.heap.size<_ by omega)).trans p2
  have P4:WA.cell? ⟨wC.heap.size+1,0,none⟩=some (.slice (some ⟨wC.heap.size,0,none⟩) p.names.length p.names.length):=(hbA.cell (p:=⟨wC.heap.size+1,0,none⟩) (show wC.heap.size+1<_ by omega)).trans p4
  have hR:WA.heap[w.heap.size+1]?=some (.cells #[.bool rv] 4 (0,0)):=(hbA.block _ ω).trans HRV.out
  have P5:WA.cell? ⟨w.heap.size+1,0,none⟩=some (.bool rv):=by simp[World.cell?,hR]
  have P6:WA.frozen? ⟨w.heap.size+1,0,none⟩=false:=by simp[World.frozen?,hR]
  have HR:=Δ hR
  have HBA:Hid (Below w.heap.size w WA):=HBR.out.trans (hbA.mono HBR.out.size)
  have HMA:Hid (∀r∈rs,w.heap.size+2<=r/\WA.heap[r]?=some (.deferred (some []))):=λr hr=>⟨(HMK.out r hr).1,(hbA.block r (Ξ (HMK.out r hr).2).1).trans (HMK.out r hr).2⟩
  have y1:w.heap.size<WA.heap.size:=by omega
  have y2:w.heap.size+1<WA.heap.size:=by omega
  have y3:wC.heap.size+1<WA.heap.size:=by omega
  have y4:wr.heap.size<WA.heap.size:=by omega
  have y5:w.heap.size<wr.heap.size+1:=by omega
  have y6:w.heap.size+1<wr.heap.size+1:=by omega
  have y7:wC.heap.size+1<wr.heap.size+1:=by omega
  clear hA hR hWA p0 p1 p2 p4 p5 p6 a0 a1 a2
  by_cases hg:Rf ac.name=true/\1<=ac.len/\ac.len<=3600000-t/\ac.moves.length=p.names.length
  case neg=>
    have hv:Hid (Ef p=false):=wB (j:=k+1) (Ajb HL.out.up (by rw[gA.out];exact hg)) hk
    have fin:∀tm:Array Value,tm[2]?=some (.pointer (some ⟨w.heap.size+1,0,none⟩))->bodyPostM Fence.wide 0 Tryz.prog Tryz.f29 (λe w'=>e= .returned (.bool (Ef p))/\Below w.heap.size w w') .ret ⟨tm,rs.map Xi⟩ (WA.setCell ⟨w.heap.size+1,0,none⟩ (.bool false)):=λtm h2=>by rw[hv.out];exact Vv h2 HR.out HBA.out HL.out.nodup HMA.out
    have FIN:=Δ fin
    have HG:=Δ hg
    clear fin hg
    by_cases h1:Rf ac.name=true
    ·
     rw[h1]
     by_cases h2:1<=ac.len
     ·
      by_cases h3:ac.len<=3600000-t
      ·
       have h4:¬ac.moves.length=p.names.length:=λh=>HG.out ⟨h1,h2,h3,h⟩
       clear h1
       go_wp2_with fail
       exact FIN.out _ rfl
      ·
       clear h1
       go_wp2_with fail
       exact FIN.out _ rfl
     ·
      clear h1
      go_wp2_with fail
      exact FIN.out _ rfl
    ·
     have h1:Rf ac.name=false:=by simpa using h1
     rw[h1]
     clear h1
     go_wp2_with fail
     exact FIN.out _ rfl
  case pos=>
  obtain⟨h1,h2,h3,h4⟩:=hg
  rw[h1]
  have H1:=Δ h1
  have H4:=Δ h4
  clear h1
  go_wp2_with fail
  all_goals try (exfalso;omega)
  obtain⟨WB,hWB⟩:∃WB,WB=WA.alloc (.cells #[.int .i64 0] 3):=⟨_,rfl⟩
  rw[<-hWB]
  refine(nD _ _ _ _ _ _).mono ?_
  rintro e wP ⟨Bp,Ba,Bt,rfl,hbP,q1,q2,q3,q4,q5,q6,qp,qa,qt⟩
  have hzB:WB.heap.size=WA.heap.size+1:=by rw[hWB];simp
  have hzP:=hbP.size
  have hbB:Below WA.heap.size WA WB:=by rw[hWB];exact Ψ.alloc ζ _
  have hB7:WB.heap[wr.heap.size+1]?=some (.cells #[.int .i64 0] 3 (0,0)):=by rw[hWB];exact Gq _ _ _ ω
  have HP7:Hid (wP.heap[wr.heap.size+1]?=some (.cells #[.int .i64 0] 3 (0,0))):=(hbP.block _ ω).trans hB7
  have HQP:=Δ qp
  have HQA:=Δ qa
  have HQT:=Δ qt
  have hrP:Below wr.heap.size wr wP:=hbA.trans ((hbB.mono ω).trans (hbP.mono ω))
  have HRP:=Δ hrP
  clear qp qa qt hWB hB7 hrP
  have hFL:Hid ((Fk p k).length=p.names.length):=Adn HNN.out.2.2 HL.out.up
  have hpP:Hid (Hx wP w.heap.size (.slice An p.names.length cn) (.slice Ah p.homes.length ch) (.slice (some ⟨ba,oa,none⟩) p.acts.length ca) p):=kp.out.below (HRP.out.mono HBR.out.size)
  have hnn1:=HNN.out.1
  have hnn2:=HNN.out.2.1
  have ITER:Hid (Ac6 64 #[.pointer (some ⟨Bp,0,none⟩),.pointer (some ⟨Ba,0,none⟩),.pointer (some ⟨Bt,0,none⟩)] p.names.length (λlo=>Yc lo p k t) (λb=>b<w.heap.size\/b=Bp\/b=Ba\/b=Bt) wP):=by
    have:=iL wP Bp Ba Bt _ _ _ p k t (λb=>b<w.heap.size\/b=Bp\/b=Ba\/b=Bt) (by intro b hb;omega) w.heap.size ω (λb hb=> .inl hb) (.inr (.inl rfl)) (.inr (.inr (.inl rfl))) (.inr (.inr (.inr rfl))) HQP.out HQA.out HQT.out hpP.out hk
     (by rw[HNN.out.2.2];omega) (by rw[HNN.out.2.2];omega) hb HMV.out (by rw[hFL.out,gA.out];exact H4.out)
    rw[hFL.out] at this
    exact this
  have hBmP:Hid (wP.heap[wC.heap.size]?=some (.cells (Ph m) 3 (0,0))):=(HRP.out.block _ ω).trans HL.out.many
  have hB2P:Hid (wP.heap[w.heap.size+1]?=some (.cells #[.bool rv] 4 (0,0))):=(HRP.out.block _ ω).trans HRV.out
  go_wp2_with fail
  refine aV (σ:=List Int) (w0:=wP) (gf:=64) (lb:=#[.pointer (some ⟨Bp,0,none⟩),.pointer (some ⟨Ba,0,none⟩),.pointer (some ⟨Bt,0,none⟩)]) rfl ?eg ITER.out Ψ (by intro b hb;omega) ?hps
    (λs i A=>VIn p k t m wP (w.heap.size+1) wC.heap.size (wr.heap.size+1) s i A) (λ_ b=>b=w.heap.size+1\/b=wC.heap.size\/b=wr.heap.size+1)
    (λc A=>c= .ret/\Dy p k t m p.names.length=none/\Agi wP (w.heap.size+1) wC.heap.size (wr.heap.size+1) A) m
    (λs i=>VIn.own ω ω ω) (λc=>Agi.own ω) ?hlt ?hTP ?h0
    (λs i args a' A=>(∃Ap c,args=#[.slice Ap (Gs p k t i).length c,.int .i64 (Um p k t i)])/\VIn p k t m wP (w.heap.size+1) wC.heap.size (wr.heap.size+1) s i A/\a'.defers=[]/\a'.tmps.size=86/\a'.tmps[2]?=some (.pointer (some ⟨w.heap.size+1,0,none⟩))/\a'.tmps[4]?=some (.pointer (some ⟨wC.heap.size+1,0,none⟩))/\a'.tmps[7]?=some (.pointer (some ⟨wr.heap.size+1,0,none⟩))/\a'.tmps[8]?=args[0]?/\a'.tmps[9]?=args[1]?) ?hM ?hassign ?hbody ?hdone ?hstop
  case eg=>intro args w;kernel_rfl
  case hps=>rintro lo i A args ⟨A',c,rfl,_⟩;rfl
  case hlt=>rintro s i A b hi (rfl|rfl|rfl)<;>(have:=hi.keep.size;omega)
  case hTP=>rintro s i A b hi hT;omega
  case h0=>exact⟨rfl,Ce.refl _ _,hBmP.out,HP7.out,rv,hB2P.out⟩
  case hM=>
    intro s i args a' _ A B row h hg hr
    exact⟨h.1,VIn.own ω ω ω () A B row h.2.1 hg hr,h.2.2⟩
  case hassign=>
    rintro l s i A0 A args hi _ _ _ hI ⟨Ap,c,rfl,hpt⟩
    have HI:=Δ hI
    clear hI hpt
    simp only[List.zip_toArray,List.zip_cons_cons,List.zip_nil_right,List.foldl_toArray,List.foldl_cons,List.foldl_nil,List.setIfInBounds_toArray,List.set_cons_succ,List.set_cons_zero]
    gi_wp2_with (rw[Oper.semAt_eq _ _ _ (λc h=>by cases h)];go_simp)
    exact⟨⟨⟨_,_,rfl⟩,HI.out,trivial,rfl,rfl,rfl,rfl,rfl,rfl⟩,KeepsOthers.refl _,Ce.refl _ _⟩
  case hbody=>
    rintro l s i A _ ⟨tmps',defers'⟩ size hi ⟨⟨Ap,c,rfl⟩,hI,hd,hsz,e2,e4,e7,e8,e9⟩ hsize
    dsimp only at hd hsz e2 e4 e7 e8 e9
    subst hd
    obtain⟨v,hu,htm⟩:=Uy tmps' 86 hsz
    have f (i:Nat) (x:Value) (hi:i<86) (h:tmps'[i]?=some x):v i=x:=by rw[hu i hi] at h;exact Option.some.inj h
    have g2:=f _ _ δ e2
    have g4:=f _ _ δ e4
    have g7:=f _ _ δ e7
    have g8:=f _ _ δ e8
    have g9:=f _ _ δ e9
    simp only[List.range,List.range.loop,List.map_cons,List.map_nil,g2,g4,g7,g8,g9] at htm
    subst htm
    clear hsz e2 e4 e7 e8 e9 hu f g2 g4 g7 g8 g9
    have hfs:=Sk UP4.out hI.eq
    have hsA:=hI.keep.size
    obtain⟨rb,hrb⟩:=hI.res
    have hmy:=hI.many
    have hct:=hI.cnt
    have hsl:s.length=p.names.length:=hfs.1.trans up3
    have d4:A.cell? ⟨wC.heap.size+1,0,none⟩=some (.slice (some ⟨wC.heap.size,0,none⟩) p.names.length p.names.length):=by
     have h1:=hI.keep.block (wC.heap.size+1) ω ω
     have h2:=HRP.out.block (wC.heap.size+1) ω
     have h3:=h1.trans (h2.trans K4.out)
     simp[World.cell?,h3]
    have d2:A.cell? ⟨w.heap.size+1,0,none⟩=some (.bool rb):=by simp[World.cell?,hrb]
    have d2f:A.frozen? ⟨w.heap.size+1,0,none⟩=false:=by simp[World.frozen?,hrb]
    have d7:A.cell? ⟨wr.heap.size+1,0,none⟩=some (.int .i64 (i:Nat)):=by simp[World.cell?,hct]
    have d7f:A.frozen? ⟨wr.heap.size+1,0,none⟩=false:=by simp[World.frozen?,hct]
    have dm:A.cell? ⟨wC.heap.size,i,none⟩=some (.int .i64 (s.getD i 0)):=by rw[<-AhR s i ω];simp[World.cell?,hmy]
    have dmf:A.frozen? ⟨wC.heap.size,i,none⟩=false:=by simp[World.frozen?,hmy]
    have hpl:=aS p k t i
    have hx:0<=s.getD i 0/\s.getD i 0<=256:=by
     have h0:i<s.length:=by omega
     have:s.getD i 0=s[i]:=by simp[h0]
     rw[this];exact hfs.2 _ (List.getElem_mem h0)
    generalize hX:s.getD i 0=x at*
    generalize hPL:(Gs p k t i).length=pl at*
    generalize hPE:Um p k t i=pe at*
    have HX:=Δ hX
    have HPL:=Δ hPL
    have HPE:=Δ hPE
    have HI:=Δ hI
    have HRB:=Δ hrb
    have HMY:=Δ hmy
    have HCT:=Δ hct
    have HWR:Hid (IntKind.i64.wrap ((i:Int)+1)=(i:Int)+1):=IntWalk.i64_in _ ω
    have hi64:(i:Int)<64:=by omega
    clear hX hPL hPE hI hrb hmy hct hfs
    by_cases hgd:pe=0/\x+pl<=256
    ·
     obtain⟨rfl,hle'⟩:=hgd
     gi_wp2_with (rw[Oper.semAt_eq _ _ _ (λc h=>by cases h)];go_simp)
     obtain⟨A1,hA1⟩:∃A1,A1=A.setCell ⟨wC.heap.size,i,none⟩ (.int .i64 (x+pl)):=⟨_,rfl⟩
     obtain⟨A2,hA2⟩:∃A2,A2=A1.setCell ⟨wr.heap.size+1,0,none⟩ (.int .i64 ((i:Int)+1)):=⟨_,rfl⟩
     (try rw[HWR.out])
     rw[<-hA1,<-hA2]
     have hk1:Ce (λb=>b=w.heap.size+1\/b=wC.heap.size\/b=wr.heap.size+1) A A1:=by rw[hA1];exact Ce.setCell _ _ _ (.inr (.inl rfl))
     have hk2:Ce (λb=>b=w.heap.size+1\/b=wC.heap.size\/b=wr.heap.size+1) A1 A2:=by rw[hA2];exact Ce.setCell _ _ _ (.inr (.inr rfl))
     have m1:A1.heap[wC.heap.size]?=some (.cells (Ph (s.set i (x+pl))) 3 (0,0)):=by rw[hA1,Ex _ _ _ _ _ _ _ HMY.out,AdC]
     have c1:A1.heap[wr.heap.size+1]?=some (.cells #[.int .i64 (i:Nat)] 3 (0,0)):=by rw[hA1,Below.heap_setCell _ _ _ _ (by show _≠wC.heap.size;omega)];exact HCT.out
     have r1:A1.heap[w.heap.size+1]?=some (.cells #[.bool rb] 4 (0,0)):=by rw[hA1,Below.heap_setCell _ _ _ _ (by show _≠wC.heap.size;omega)];exact HRB.out
     refine⟨?_,hk1.trans hk2,s.set i (x+pl),⟨?_,HI.out.keep.trans (hk1.trans hk2),?_,?_,rb,?_⟩,λb hb=> .inl hb⟩
     · rw[hA2,hA1];exact(KeepsOthers.setCell _ _ _).trans (KeepsOthers.setCell _ _ _)
     ·
      have:=uJ HI.out.eq (i:=i) (by rw[HX.out,HPL.out,HPE.out];exact⟨rfl,hle'⟩)
      rw[HX.out,HPL.out] at this;exact this
     · rw[hA2,Below.heap_setCell _ _ _ _ (by show _≠wr.heap.size+1;omega)];exact m1
     · rw[hA2,Ex _ _ _ _ _ _ _ c1];simp
     · rw[hA2,Below.heap_setCell _ _ _ _ (by show _≠wr.heap.size+1;omega)];exact r1
    ·
     have hno:Hid (Dy p k t m p.names.length=none):=uK (i:=i+1) (Aac HI.out.eq (by rw[HX.out,HPL.out,HPE.out];exact hgd)) _ hi
     have FIN2:Hid (KeepsOthers A ((A.setCell ⟨wC.heap.size,i,none⟩ (.int .i64 (x+pl))).setCell ⟨w.heap.size+1,0,none⟩ (.bool false))/\Code.ret=Code.ret/\Dy p k t m p.names.length=none/\Agi wP (w.heap.size+1) wC.heap.size (wr.heap.size+1) ((A.setCell ⟨wC.heap.size,i,none⟩ (.int .i64 (x+pl))).setCell ⟨w.heap.size+1,0,none⟩ (.bool false))):=by
      refine⟨(KeepsOthers.setCell _ _ _).trans (KeepsOthers.setCell _ _ _),rfl,hno.out,HI.out.keep.trans ((Ce.setCell _ _ _ (.inr (.inl rfl))).trans (Ce.setCell _ _ _ (.inl rfl))),?_⟩
      have r1:(A.setCell ⟨wC.heap.size,i,none⟩ (.int .i64 (x+pl))).heap[w.heap.size+1]?=some (.cells #[.bool rb] 4 (0,0)):=by rw[Below.heap_setCell _ _ _ _ (by show _≠wC.heap.size;omega)];exact HRB.out
      rw[Ex _ _ _ _ _ _ _ r1];simp
     by_cases hpe:pe=0
     ·
      subst hpe
      have hgt:¬x+pl<=256:=λh=>hgd ⟨rfl,h⟩
      clear hgd
      gi_wp2_with (rw[Oper.semAt_eq _ _ _ (λc h=>by cases h)];go_simp)
      exact⟨FIN2.out.1,rfl,FIN2.out.2.2.1,FIN2.out.2.2.2⟩
     ·
      clear hgd
      gi_wp2_with (rw[Oper.semAt_eq _ _ _ (λc h=>by cases h)];go_simp)
      exact⟨FIN2.out.1,rfl,FIN2.out.2.2.1,FIN2.out.2.2.2⟩
  case hdone=>
    rintro D s A hD hI hdA
    have hka:=hI.keep
    have hsA:=hka.size
    have b1:A.cell? ⟨wr.heap.size,1,none⟩=some (.int .i64 ac.len):=by
     have h1:=hka.block wr.heap.size ω ω
     have h2:=hbP.block wr.heap.size ω
     have h3:=hbB.block wr.heap.size ω
     have h4:=h1.trans (h2.trans (h3.trans HA0.out))
     simp[World.cell?,h4]
    have HI:=Δ hI
    have HKA:=Δ hka
    clear hI hka
    go_wp2_with fail
    refine⟨⟨rfl,D::rs,k+1,t+ac.len,s,?_,rfl,rfl,rfl,rfl,rfl,rfl,rfl,rfl⟩,?_⟩
    ·
     have hup:=AeC HL.out.up (m':=s) (by rw[gA.out];exact⟨H1.out,h2,h3,H4.out⟩) HI.out.eq
     rw[gA.out] at hup
     have hk2:Ce (λb=>b=w.heap.size+1\/b=wC.heap.size) W0 A:=by
      have hk0:=HL.out.keep
      have hk1:=HKA.out
      have hk3:=HRP.out
      refine⟨hk1.os.trans (hk3.os.trans hk0.os),hk1.tape.trans (hk3.tape.trans hk0.tape),hk1.output.trans (hk3.output.trans hk0.output),by have:=hk3.size;omega,λb hb hn=>?_⟩
      have:=hk3.size
      exact(hk1.block b ω ω).trans ((hk3.block b ω).trans (hk0.block b hb hn))
     refine⟨hup,hk,hk2,HI.out.many,HI.out.res,?_,?_⟩
     ·
      refine List.nodup_cons.2 ⟨λh=>?_,HL.out.nodup⟩
      have:=(Ξ (HMK.out D h).2).1
      have:=HRP.out.size
      omega
     ·
      intro r hr
      rcases List.mem_cons.1 hr with rfl|hr
      · exact⟨by have:=HRP.out.size;omega,hdA⟩
      ·
       have h1:=HMK.out r hr
       have h2:=(Ξ h1.2).1
       have h3:=(HL.out.marks r hr).1
       have h4:=HRP.out.size
       exact⟨h3,(HKA.out.block r ω ω).trans ((HRP.out.block r h2).trans h1.2)⟩
    · simp[intOf];omega
  case hstop=>
    rintro D c A hD ⟨rfl,hno,ho⟩ hdA
    have hv:Ef p=false:=wB (j:=k+1) (AeD HL.out.up hno) hk
    go_wp2_with fail
    rw[hv]
    have hka:=ho.keep
    have hsA:=hka.size
    refine nP (rs:=D::rs) rfl ?_ ω ?_ ?_ ?_
    · simp[World.cell?,ho.res]
    ·
     have hbw:Below w.heap.size w wP:=HBR.out.trans (HRP.out.mono HBR.out.size)
     exact⟨hka.os.trans hbw.os,hka.tape.trans hbw.tape,hka.output.trans hbw.output,ω,λb hb=>(hka.block b ω ω).trans (hbw.block b hb)⟩
    ·
     refine List.nodup_cons.2 ⟨λh=>?_,HL.out.nodup⟩
     have:=(Ξ (HMK.out D h).2).1
     have:=HRP.out.size
     omega
    ·
     intro r hr
     rcases List.mem_cons.1 hr with rfl|hr
     · exact⟨ω,hdA⟩
     ·
      have h1:=HMK.out r hr
      have h2:=(Ξ h1.2).1
      have h3:=(HL.out.marks r hr).1
      have h4:=HRP.out.size
      exact⟨h1.1,(hka.block r ω ω).trans ((HRP.out.block r h2).trans h1.2)⟩
end Go.Proofs.YtkpjchfniejdoaaGreatDoor