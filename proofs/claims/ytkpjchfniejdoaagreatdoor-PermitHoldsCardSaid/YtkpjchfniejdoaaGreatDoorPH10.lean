/- Part 10 of the proof of PH.card_holds: no condition beyond the row's. -/
import Derived.Test.YtkpjchfniejdoaaGreatDoorPH9
import Derived.BigGuardPart
set_option maxRecDepth 100000
set_option maxHeartbeats 40000000
namespace Go.Proofs.YtkpjchfniejdoaaGreatDoor
open Go.Proofs.Tryz
open Go.RowKit
theorem θ {p:Prop} (h:p:=by assumption):p:=h
def strs (l:List ByteArray):List Value:=l.map .string
theorem Amb (l:List ByteArray) (k:Nat) (h:k<l.length):(strs l)[k]?=some (.string l[k]):=by simp[strs,h]
def V3.val (v:V3):Value:= .agg #[.int .i64 v.x,.int .i64 v.y,.int .i64 v.z]
def eqV (a b:V3):Bool:=a.x==b.x&&(a.y==b.y&&a.z==b.z)
def Sc (names:List ByteArray) (homes:List V3) (k:Nat):Bool:=
 Rf (names.getD k ByteArray.empty)&& !((names.take k).any λt=>names.getD k ByteArray.empty==t)&&V3.pt' (homes.getD k V3.zero)&& !((homes.take k).any λt=>eqV (homes.getD k V3.zero) t)
where V3.pt' (v:V3):Bool:=Wk v.x v.y v.z
def Ts (names:List ByteArray) (homes:List V3):Bool:=
 decide (1<=names.length)&&decide (names.length<=64)&&decide (homes.length=names.length)&&(List.range names.length).all (Sc names homes)
def Nx (l:List ByteArray):List (Value×Value):=l.map λs=>(.string s,.bool true)
def Mb (l:List V3):List (Value×Value):=l.map λv=>(v.val,.bool true)
theorem Aaa (l:List ByteArray) (s:ByteArray):(((Nx l).find? (λp=>lY (.string s) p.1)).map (·.2)).getD (.bool false)= .bool (l.any λt=>s==t):=by
 induction l with
 |nil=>rfl
 |cons t l ih=>
  unfold Nx at*
  simp only[List.map_cons,List.find?_cons,List.any_cons]
  have e:lY (.string s) (.string t)=(s==t):=rfl
  rw[e]
  cases s==t
  simpa using ih
  rfl
theorem zZ (l:List V3) (v:V3):(((Mb l).find? (λp=>lZ v.val p.1)).map (·.2)).getD (.bool false)= .bool (l.any λt=>eqV v t):=by
 induction l with
 |nil=>rfl
 |cons t l ih=>
  unfold Mb at*
  simp only[List.map_cons,List.find?_cons,List.any_cons]
  have e:lZ v.val t.val=eqV v t:=rfl
  rw[e]
  cases eqV v t
  simpa using ih
  rfl
theorem cG (l:List ByteArray):∀p∈Nx l,∃s,p.1= .string s:=by
 intro p hp;unfold Nx at hp;obtain⟨s,_,rfl⟩:=List.mem_map.1 hp;exact⟨s,rfl⟩
theorem cA (l:List V3):∀p∈Mb l,∃x y z,p.1=vec x y z:=by
 intro p hp;unfold Mb at hp;obtain⟨v,_,rfl⟩:=List.mem_map.1 hp;exact⟨v.x,v.y,v.z,rfl⟩
theorem uO (l:List ByteArray) (s:ByteArray) (h:(l.any λt=>s==t)=false):∀p∈Nx l,lY (.string s) p.1=false:=by
 intro p hp;unfold Nx at hp;obtain⟨t,ht,rfl⟩:=List.mem_map.1 hp
 rw[List.any_eq_false] at h
 have:=h t ht
 show (s==t)=false
 simpa using this
theorem tT (l:List V3) (v:V3) (h:(l.any λt=>eqV v t)=false):∀p∈Mb l,lZ v.val p.1=false:=by
 intro p hp;unfold Mb at hp;obtain⟨t,ht,rfl⟩:=List.mem_map.1 hp
 rw[List.any_eq_false] at h
 have:=h t ht
 show eqV v t=false
 simpa using this
theorem AkB {names:List ByteArray} {homes:List V3} {k:Nat} (hk:k<names.length) (h:Sc names homes k=false):Ts names homes=false:=by
 have:(List.range names.length).all (Sc names homes)=false:=by
  rw[List.all_eq_false];exact⟨k,List.mem_range.2 hk,by rw[h];simp⟩
 unfold Ts;rw[this];simp
theorem AcQ {names:List ByteArray} {homes:List V3} {k:Nat} (h:(List.range k).all (Sc names homes)=true) (hs:Sc names homes k=true):(List.range (k+1)).all (Sc names homes)=true:=by
 rw[List.range_succ,List.all_append,h];simp[hs]
theorem AgD (names:List ByteArray) (homes:List V3) (vn vh va:Value) (w:World) (hn:Bv w 0 w.heap.size 1 vn names.length (strs names)) (hh:Bv w 0 w.heap.size 3 vh homes.length (Iz homes)) (hva:∃A n c,va= .slice A n c)
  (hsz:∀s∈names,s.size<=maxLen):
  Calls Tryz.prog 40 #[.agg #[vn,vh,va]] w λe w'=>e= .returned (.bool (Ts names homes))/\Below w.heap.size w w':=by
 obtain⟨An,cn,rfl⟩:=hn.slice
 obtain⟨Ah,ch,rfl⟩:=hh.slice
 obtain⟨Aa,na,ca,rfl⟩:=hva
 have hmm:=@run_makeMap Tryz.prog
 by_cases hpre:1<=names.length/\names.length<=64/\homes.length=names.length
 ·
  obtain⟨p1,p2,p3⟩:=hpre
  have HP3:=Δ p3
  have hne:((homes.length:Int) != (names.length:Int))=false:=by simp[p3]
  clear p3
  go_enter func40,ntmps40
  go_wp2_with fail
  go_loopw [2,6,7,29] (λ_ _ _ i wr=>∃k:Nat,k<=names.length/\i= .int .i64 k/\Et wr (w.heap.size+1) (Nx (names.take k))/\Et wr (w.heap.size+1+1) (Mb (homes.take k))/\
   wr.heap[w.heap.size]?=some (.cells #[.slice An names.length cn,.slice Ah homes.length ch,.slice Aa na ca] 31 (0,0))/\Below w.heap.size w wr/\Hid ((List.range k).all (Sc names homes)=true)) (λ_ _ _ i _=>names.length-(intOf i).toNat)
  case atStart=>
   refine⟨0,Nat.zero_le _,rfl,?_,?_,?_,?_,rfl⟩
   · exact(Et.new _ _ (by simp)).alloc _
   · exact Et.new _ _ (by simp)
   · rw[Below.heap_alloc _ _ _ (by simp;omega),Below.heap_alloc _ _ _ (by simp)];exact Gq _ _ _ rfl
   · exact((Ψ.alloc ζ _).alloc (by simp) _).alloc (by simp;omega) _
  case round=>
   obtain⟨k,hk,rfl,hmn,hmh,hbox,hbel,HA⟩:=hrel
   have c0:wr.cell? ⟨w.heap.size,0,none⟩=some (.slice An names.length cn):=by simp[World.cell?,hbox]
   have c1:wr.cell? ⟨w.heap.size,1,none⟩=some (.slice Ah homes.length ch):=by simp[World.cell?,hbox]
   have HBX:=Δ hbox
   clear hbox
   by_cases hlt:k<names.length
   ·
    obtain⟨bn,on,cn',en,_,hbn,hcn⟩:=(hn.below hbel).pos ω
    obtain⟨bh,oh,ch',eh,_,hbh,hch⟩:=(hh.below hbel).pos (by have:=HP3.out;omega)
    have hlh:k<homes.length:=by have:=HP3.out;omega
    have hcell:=hcn k _ (Amb names k hlt)
    have hv0:=hch _ _ (Mu homes k hlh 0 _ rfl)
    have hv1:=hch _ _ (Mu homes k hlh 1 _ rfl)
    have hv2:=hch _ _ (Mu homes k hlh 2 _ rfl)
    have gN:names.getD k ByteArray.empty=names[k]:=by simp[hlt]
    have gH:homes.getD k V3.zero=homes[k]:=by simp[hlh]
    have hsk:=hsz _ (List.getElem_mem hlt)
    have hl1:=hmn.look underlying132 (Ah8 9 underlying9) (cG _) (.string names[k]) ⟨_,rfl⟩ (.bool false) κ
    rw[Aaa] at hl1
    cases en
    cases eh
    have HC:Hid (Sc names homes k=(Rf names[k]&& !((names.take k).any λt=>names[k]==t)&&Wk homes[k].x homes[k].y homes[k].z&& !((homes.take k).any λt=>eqV homes[k] t))):=by
     unfold Hid Sc;rw[gN,gH];rfl
    have hl2:Hid (∀W,Et W (w.heap.size+1+1) (Mb (homes.take k))->(Instr.lookup 133 (.map (some (w.heap.size+1+1))) (.agg #[.int .i64 homes[k].x,.int .i64 homes[k].y,.int .i64 homes[k].z]) false).run Tryz.prog W= .ok (.bool ((homes.take k).any λt=>eqV homes[k] t)) W):=λW hW=>by
     have:=hW.look underlying133 Ah9 (cA _) homes[k].val ⟨_,_,_,rfl⟩ (.bool false) κ
     rw[zZ] at this
     exact this
    have HFN:Hid (((names.take k).any λt=>names[k]==t)=false->∀p∈Nx (names.take k),lY (.string names[k]) p.1=false):=uO _ _
    have HFH:Hid (((homes.take k).any λt=>eqV homes[k] t)=false->∀p∈Mb (homes.take k),lZ homes[k].val p.1=false):=tT _ _
    have HTN:Hid (Nx (names.take k)++[(.string names[k],.bool true)]=Nx (names.take (k+1))):=by unfold Hid Nx;rw[List.take_succ_eq_append_getElem hlt];simp only[List.map_append,List.map_cons,List.map_nil]
    have HTH:Hid (Mb (homes.take k)++[(homes[k].val,.bool true)]=Mb (homes.take (k+1))):=by unfold Hid Mb;rw[List.take_succ_eq_append_getElem hlh];simp only[List.map_append,List.map_cons,List.map_nil]
    clear hcn hch hn hh gN gH hsz hmm
    generalize hs:names[k]=sk at*
    generalize hhv:homes[k]=hv at*
    generalize h1:((names.take k).any λt=>sk==t)=A1 at*
    generalize h2:((homes.take k).any λt=>eqV hv t)=A2 at*
    clear hs hhv h1 h2
    simp only[Nat.add_zero] at hv0
    rw[<-Nat.add_assoc] at hv1 hv2
    have hzr:=hmh.lt
    have hbr:bh<wr.heap.size:=by have:=hbel.size;omega
    go_wp2_with (first
     |(
      go_at_call 41
      refine(Wn _ _ hsk).mono ?_
      rintro e w' ⟨rfl,rfl⟩)
     |(
      go_at_call 17
      refine(Gg _ _ _ _).mono ?_
      rintro e w1 ⟨rfl,hb1⟩
      have hzz:=hb1.size
      have hmn1:=hmn.below hb1 hmn.lt
      have hmh1:=hmh.below hb1 hmh.lt
      have hl2':=hl2.out w1 hmh1
      have d1:=(hb1.cell (p:=⟨w.heap.size,1,none⟩) (show w.heap.size<_ by omega)).trans c1
      have e0:=(hb1.cell (p:=⟨bh,oh+k*3,none⟩) hbr).trans hv0
      have e1:=(hb1.cell (p:=⟨bh,oh+k*3+1,none⟩) hbr).trans hv1
      have e2:=(hb1.cell (p:=⟨bh,oh+k*3+2,none⟩) hbr).trans hv2)
     |(
      with_reducible refine kN rfl (.tmp 60) (.tmp 61) (.const (.bool true)) 132 rfl underlying132 (Ah8 9 underlying9) rfl hmn1 (cG _) (.string sk) (.bool true) rfl rfl ⟨_,rfl⟩ (HFN.out θ) ?_
      intro w2 hm2 hg2
      have hmh2:=hmh1.keep (hg2.block _ hmh1.lt (by simp)))
     |(
      with_reducible refine rF rfl (.tmp 62) (.tmp 67) 133 rfl underlying133 Ah9 rfl hmh2 (cA _) hv.val rfl ⟨_,_,_,rfl⟩ (HFH.out θ) (.bool false) κ ?_
      intro w3 cc hE hg3
      have hm3:=hm2.keep (hg3.block _ hm2.lt (by simp)))
     |(
      with_reducible refine Zy rfl (.tmp 62) (.tmp 69) (.const (.bool true)) 133 rfl rfl hE rfl (.bool true) rfl ?_
      intro w4 hm4 hg4
      have hm5:=hm3.keep (hg4.block _ hm3.lt (by simp))))
    case roundEnd=>
     rw[HTN.out] at hm5
     rw[HTH.out] at hm4
     refine⟨⟨k+1,ω,by go_num,hm5,hm4,?_,?_,AcQ HA.out ?_⟩,by simp[intOf];omega⟩
     ·
      rw[hg4.block _ (by have:=hm3.lt;omega) (by simp;omega),hg3.block _ (by have:=hm2.lt;omega) (by simp;omega),hg2.block _ (by have:=hmn1.lt;omega) (by simp),hb1.block _ ω]
      exact HBX.out
     ·
      have q1:=hbel.trans (hb1.mono hbel.size)
      have q2:=q1.grown hg2 q1.size (by rintro j ⟨rfl⟩;omega)
      have q3:=q2.grown hg3 q2.size (by rintro j ⟨rfl⟩;omega)
      exact q3.grown hg4 q3.size (by rintro j ⟨rfl⟩;omega)
     · rw[HC.out];simp[*]
    all_goals
     go_ret
     refine⟨Fh (AkB hlt ?_).symm,?_⟩
     · rw[HC.out];simp[*]
     · first|exact hbel|exact hbel.trans (hb1.mono hbel.size)
   ·
    have HKN:Hid (k=names.length):=by unfold Hid;omega
    go_wp2
    go_ret
    refine⟨Fh ?_,hbel⟩
    unfold Ts
    rw[<-HKN.out,HA.out]
    have:=HP3.out
    rw[this,<-HKN.out]
    simp
    omega
 ·
  have HN:Hid (Ts names homes=false):=by
   unfold Hid Ts
   by_cases a1:1<=names.length<;>by_cases a2:names.length<=64<;>by_cases a3:homes.length=names.length<;>simp[a1,a2,a3]
   exact absurd ⟨a1,a2,a3⟩ hpre
  go_enter func40,ntmps40
  go_wp2_with fail
  all_goals first
   |(go_ret;exact⟨Fh HN.out.symm,Ψ.alloc ζ _⟩)
   |(exfalso;apply hpre;refine⟨ω,ω,?_⟩;have h:=‹((homes.length:Int) != (names.length:Int))=false›;simp at h;omega)
structure Mv where
 to:V3
 wait:Int
 flight:Int
 rise:Int
structure Ac where
 name:ByteArray
 len:Int
 moves:List Mv
structure Pr where
 names:List ByteArray
 homes:List V3
 acts:List Ac
def Mv.cells (m:Mv):List Value:=[.int .i64 m.to.x,.int .i64 m.to.y,.int .i64 m.to.z,.int .i64 m.wait,.int .i64 m.flight,.int .i64 m.rise]
def mvs (l:List Mv):List Value:=l.flatMap Mv.cells
theorem Ui:∀(l:List Mv) (k:Nat) (h:k<l.length) (j:Nat) (u:Value),(l[k].cells)[j]?=some u->(mvs l)[k*6+j]?=some u
 |v::l,0,_,j,u,hu=>by
  show (v.cells++mvs l)[0*6+j]?=some u
  rw[Nat.zero_mul,Nat.zero_add,List.getElem?_append_left]
  exact hu
  exact(List.getElem?_eq_some_iff.1 hu).1
 |v::l,k+1,h,j,u,hu=>by
  have:=Ui l k (by simpa using h) j u hu
  show (v.cells++mvs l)[(k+1)*6+j]?=some u
  rw[List.getElem?_append_right (by simp[Mv.cells];omega),<-this]
  congr 1
  simp[Mv.cells]
  omega
def AfV (w:World) (D:Nat->Prop) (a:Ac) (cs:List Value):Prop:=∃vm,cs=[.string a.name,.int .i64 a.len,vm]/\Cs w D 6 vm a.moves.length (mvs a.moves)
def Tl (w:World) (D:Nat->Prop):List Ac->List Value->Prop
 |[],cs=>cs=[]
 |s::ss,cs=>∃a b,cs=a++b/\AfV w D s a/\Tl w D ss b
structure Hx (w:World) (hi:Nat) (vn vh va:Value) (p:Pr):Prop where
 names:Bv w 0 hi 1 vn p.names.length (strs p.names)
 homes:Bv w 0 hi 3 vh p.homes.length (Iz p.homes)
 acts:∃cs,Bv w 0 hi 3 va p.acts.length cs/\Tl w (rg 0 hi) p.acts cs
theorem Tl.keep {w w':World} {D:Nat->Prop} (hk:∀b o,D b->w'.cell? ⟨b,o,none⟩=w.cell? ⟨b,o,none⟩):∀{ss:List Ac} {cs:List Value},Tl w D ss cs->Tl w' D ss cs
 |[],_,h=>h
 |_::_,_,⟨a,b,e,⟨vm,e1,h1⟩,h2⟩=>⟨a,b,e,⟨vm,e1,h1.keep hk⟩,Tl.keep hk h2⟩
theorem Tl.more {w:World} {D D':Nat->Prop} (hD:∀b,D b->D' b):∀{ss:List Ac} {cs:List Value},Tl w D ss cs->Tl w D' ss cs
 |[],_,h=>h
 |_::_,_,⟨a,b,e,⟨vm,e1,h1⟩,h2⟩=>⟨a,b,e,⟨vm,e1,h1.more hD⟩,Tl.more hD h2⟩
theorem Tl.at_ {w:World} {D:Nat->Prop}:∀{ss:List Ac} {cs:List Value},Tl w D ss cs->∀{k:Nat} (hk:k<ss.length),∃vm,Cs w D 6 vm ss[k].moves.length (mvs ss[k].moves)/\∀j u,[Value.string ss[k].name,.int .i64 ss[k].len,vm][j]?=some u->cs[k*3+j]?=some u
 |s::ss,_,⟨a,b,e,⟨vm,e1,h1⟩,h2⟩,0,_=>⟨vm,h1,λj u hu=>by
   rw[e,e1,Nat.zero_mul,Nat.zero_add,List.getElem?_append_left]
   exact hu
   exact(List.getElem?_eq_some_iff.1 hu).1⟩
 |s::ss,_,⟨a,b,e,⟨vm,e1,h1⟩,h2⟩,k+1,hk=>by
  obtain⟨c,hc,hcell⟩:=Tl.at_ h2 (k:=k) (by simpa using hk)
  refine⟨c,hc,λj u hu=>?_⟩
  rw[e,List.getElem?_append_right (by rw[e1];simp;omega),<-hcell j u hu,e1]
  congr 1
  simp
  omega
theorem Hx.below {w w':World} {hi:Nat} {vn vh va:Value} {p:Pr} (h:Hx w hi vn vh va p) (hb:Below hi w w'):Hx w' hi vn vh va p:=by
 obtain⟨cs,h1,h2⟩:=h.acts
 exact⟨h.names.below hb,h.homes.below hb,cs,h1.below hb,h2.keep λb o hd=>hb.cell (p:=⟨b,o,none⟩) hd.2⟩
theorem Hx.more {w:World} {hi hi':Nat} {vn vh va:Value} {p:Pr} (h:Hx w hi vn vh va p) (hh:hi<=hi'):Hx w hi' vn vh va p:=by
 obtain⟨cs,h1,h2⟩:=h.acts
 exact⟨h.names.more ζ hh,h.homes.more ζ hh,cs,h1.more ζ hh,h2.more λb hd=>⟨hd.1,Nat.lt_of_lt_of_le hd.2 hh⟩⟩
theorem wD:(Tryz.prog.info? 33).map (λi=>(i.zero,i.size,i.bytes))=some (some (.agg #[.int .i64 0,.int .i64 0,.int .i64 0]),3,24):=κ
theorem Ajf (l:List V3):∀u∈Iz l,u.oneCell'=true:=by
 intro u hu
 unfold Iz at hu
 obtain⟨v,_,hv⟩:=List.mem_flatMap.1 hu
 simp at hv
 rcases hv with rfl|rfl|rfl<;>rfl
theorem oP (l:List V3) (v:Value) (w:World) (h:Bv w 0 w.heap.size 3 v l.length (Iz l)) (hl:0<l.length) (hm:l.length<=1000000):
  Calls Tryz.prog 93 #[v] w λe w'=>∃v',e= .returned v'/\Bv w' w.heap.size w'.heap.size 3 v' l.length (Iz l)/\Below w.heap.size w w':=by
 obtain⟨i0,hi0,hz0,hz1,hz2⟩:=info_parts wD
 obtain⟨b,o,c,rfl,_,hb,hc⟩:=h.pos hl
 have hnil:=λW=>Lib.run_eql_slice_nil (P:=Tryz.prog) W 22 33 (some ⟨b,o,none⟩) l.length c 0 0 underlying22
 clear hc
 go_enter func93,ntmps93
 have hown:=dY w [] 0 w.heap.size 3 33 rfl rfl δ
 have hs1:=h.up ((Below.refl w.heap.size w).alloc ζ (.cells #[] 33))
 go_wp2_with (at_builtin;refine Fr rfl (.tmp 5) (.tmp 6) 22 rfl w.heap.size 33 i0 _ 3 24 underlying22 hi0 hz0 hz1 hz2 rfl δ _ _ _ rfl hown _ _ _ _ rfl hs1 (Ajf l) ?_ ?_ ?_ ?_)
 · unfold maxLen;omega
 · omega
 · simp
 intro v' w1 hown1 hg1 hat1
 go_wp2
 go_ret
 refine⟨_,rfl,Bv.own hown1,(Ψ.alloc ζ _).grown hg1 (by simp) ?_⟩
 rintro j hj
 simp[Value.ownBlock] at hj
 omega
def Fk (p:Pr) (k:Nat):List V3:=if k=0 then p.homes else (p.acts.getD (k-1) ⟨ByteArray.empty,0,[]⟩).moves.map (·.to)
def nM (l:List Mv) (k:Nat):List V3:=(l.take k).map (·.to)
theorem Aa7 (l:List Mv) (k:Nat) (h:k<l.length):Iz (nM l k)++[.int .i64 l[k].to.x,.int .i64 l[k].to.y,.int .i64 l[k].to.z]=Iz (nM l (k+1)):=by
 unfold nM;rw[List.take_succ_eq_append_getElem h,List.map_append,<-wG];rfl
theorem jX (p:Pr) (k:Nat) (vn vh va:Value) (w:World) (h:Hx w w.heap.size vn vh va p) (hh:0<p.homes.length) (hm:p.homes.length<=1000000) (hk:k<=p.acts.length) (hb:p.acts.length<=1000000) (hmv:∀a∈p.acts,a.moves.length<=1000000):
  Calls Tryz.prog 65 #[.agg #[vn,vh,va],.int .i64 (k:Nat)] w λe w'=>∃v',e= .returned v'/\Bv w' w.heap.size w'.heap.size 3 v' (Fk p k).length (Iz (Fk p k))/\Below w.heap.size w w':=by
 obtain⟨An,cn,rfl⟩:=h.names.slice
 obtain⟨bh,oh,ch,rfl,_,_,_⟩:=h.homes.pos hh
 obtain⟨cs,ha,hacts⟩:=h.acts
 obtain⟨Aa,ca,rfl⟩:=ha.slice
 by_cases hk0:k=0
 ·
  subst hk0
  have HF:Hid (Fk p 0=p.homes):=by unfold Hid Fk;rw[if_pos rfl]
  go_enter func65,ntmps65
  go_wp2_with fail
  refine(oP p.homes _ _ ?_ hh hm).mono ?_
  · exact h.homes.up (Ψ.alloc ζ _)
  rintro e w1 ⟨v',rfl,hs,hb1⟩
  go_wp2
  go_ret
  rw[HF.out]
  exact⟨_,rfl,hs.more (by simp) ζ,(Ψ.alloc ζ _).trans (hb1.mono (by simp))⟩
 ·
  have hkl:k-1<p.acts.length:=by omega
  obtain⟨i0,hi0,hz0,hz1,hz2⟩:=info_parts wD
  obtain⟨ba,oa,ca',ea,_,hba,hca⟩:=ha.pos ω
  obtain⟨vm,hvm,hcm⟩:=hacts.at_ hkl
  have hc2:=hca _ _ (hcm 2 vm rfl)
  have HF:Hid (Fk p k=p.acts[k-1].moves.map (·.to)):=by unfold Hid Fk;rw[if_neg hk0];simp[hkl]
  have hmk:=hmv _ (List.getElem_mem hkl)
  generalize hM:p.acts[k-1].moves=M at*
  obtain⟨Am,cm,rfl⟩:=hvm.slice
  cases ea
  have hks:(k:Int)-1=((k-1:Nat):Int):=by omega
  have hkb:((k:Int)==0)=false:=by simp;omega
  clear hca hcm hacts hM hmv
  rw[<-Nat.add_assoc] at hc2
  go_enter func65,ntmps65
  go_wp2
  go_loopw [5,7,21] (λv _ i wr=>∃q:Nat,q<=M.length/\i= .int .i64 q/\wr.ownsRow w.heap.size 33 3 v q (Iz (nM M q))/\Below w.heap.size w wr) (λ_ _ i _=>M.length-(intOf i).toNat)
  case atStart=>exact⟨0,Nat.zero_le _,rfl,⟨rfl,.inl ⟨rfl,rfl⟩⟩,Ψ.alloc ζ _⟩
  case round=>
   obtain⟨q,hq,rfl,hown,hbel⟩:=hrel
   by_cases hlt:q<M.length
   ·
    obtain⟨bm,om,cm',em,_,hbm,hcm⟩:=(Bv.below hvm hbel).pos ω
    have m0:=hcm _ _ (Ui M q hlt 0 _ rfl)
    have m1:=hcm _ _ (Ui M q hlt 1 _ rfl)
    have m2:=hcm _ _ (Ui M q hlt 2 _ rfl)
    have m3:=hcm _ _ (Ui M q hlt 3 _ rfl)
    have m4:=hcm _ _ (Ui M q hlt 4 _ rfl)
    have m5:=hcm _ _ (Ui M q hlt 5 _ rfl)
    rw[<-Nat.add_assoc] at m1 m2 m3 m4 m5
    simp only[Nat.add_zero] at m0
    have HT:=Δ (Aa7 M q hlt)
    cases em
    clear hcm hvm
    generalize M[q]=mv at*
    have hzr:=hbel.size
    go_wp2_with (at_builtin;refine wpList_append_own _ rfl (.tmp 25) (.tmp 28) 22 rfl w.heap.size 33 i0 _ 3 24 underlying22 hi0 hz0 hz1 hz2 rfl δ _ _ _ rfl ((hown.alloc _).alloc _) ⟨_,0,none⟩ 1 1 [.int .i64 mv.to.x,.int .i64 mv.to.y,.int .i64 mv.to.z] rfl rfl ?c1 ?c2 ?c3 ?c4 ?c5 ?_)
    case c1=>intro j u hu;rw[Ek];simpa using hu
    case c2=>simp[Value.oneCell']
    case c3=>unfold maxLen;omega
    case c4=>omega
    case c5=>simp;omega
    intro v' w1 hown1 hg1 _
    rw[HT.out] at hown1
    have hb1:Below w.heap.size w w1:=((hbel.alloc hbel.size _).alloc (by simp;omega) _).grown hg1 (by simp;omega) (λj hj=>(hown.lt j hj).1)
    clear hown hbel hg1 m0 m1 m2 m3 m4 m5
    go_wp2
    go_roundw
    case rel=>exact⟨q+1,ω,by go_num,hown1,hb1⟩
    case measure=>simp[intOf];omega
   ·
    have HQ:Hid (q=M.length):=by unfold Hid;omega
    go_wp2
    go_ret
    refine⟨_,rfl,?_,hbel⟩
    rw[HF.out]
    have e1:nM M q=M.map (·.to):=by unfold nM;rw[List.take_of_length_le (by rw[HQ.out];exact Nat.le_refl _)]
    have e2:(M.map (·.to)).length=q:=by simp[HQ.out]
    rw[e2,<-e1]
    exact Bv.own hown
def cY (n:Int):Bool:=decide (0<=n)&&decide (n<=3600000)
theorem Pt (n:Int):cY n=true↔0<=n/\n<=3600000:=by unfold cY;simp
def hiB (x y z r:Int):Bool:=Wk x y (z+r)
theorem Zt (n:Int) (w:World):Calls Tryz.prog 94 #[.int .i64 n] w λe w'=>e= .returned (.bool (cY n))/\w=w':=by
 by_cases h1:0<=n
 ·
  go_enter func94,ntmps94
  go_wp2
  go_ret
  exact⟨Fh (by unfold cY;simp[h1]),rfl⟩
 ·
  go_enter func94,ntmps94
  go_wp2
  go_ret
  exact⟨Fh (by unfold cY;simp;omega),rfl⟩
theorem zL (x y z r:Int) (w:World) (hz: -1048576<=z/\z<=1048576) (hr:0<=r/\r<=3600000):
  Calls Tryz.prog 118 #[.agg #[.int .i64 x,.int .i64 y,.int .i64 z],.int .i64 r] w λe w'=>e= .returned (.bool (hiB x y z r))/\Below w.heap.size w w':=by
 obtain⟨z1,z2⟩:=hz
 obtain⟨r1,r2⟩:=hr
 go_enter func118,ntmps118
 go_wp2_with fail
 refine(Gg _ _ _ _).mono ?_
 rintro e w1 ⟨rfl,hb⟩
 go_wp2
 go_ret
 exact⟨rfl,(Ψ.alloc ζ _).trans (hb.mono (by simp))⟩
def mvB (fx fy fz tx ty tz wait flight rise len:Int):Bool:=
 Wk tx ty tz&&cY wait&&cY flight&&cY rise&&decide (wait+flight<=len)&&
  (if flight=0 then (tx==fx&&(ty==fy&&tz==fz))&&decide (rise=0) else if 0<rise then decide (flight%4=0)&&hiB fx fy fz rise&&hiB tx ty tz rise else true)
theorem Aod {fx fy fz tx ty tz wait flight rise len:Int} (h1:Wk tx ty tz=true) (hT:(cY wait&&cY flight&&cY rise)=true):mvB fx fy fz tx ty tz wait flight rise len=
  (decide (wait+flight<=len)&&(if flight=0 then (tx==fx&&(ty==fy&&tz==fz))&&decide (rise=0) else if 0<rise then decide (flight%4=0)&&hiB fx fy fz rise&&hiB tx ty tz rise else true)):=by
 simp only[Bool.and_eq_true] at hT
 unfold mvB
 rw[h1,hT.1.1,hT.1.2,hT.2]
 rfl
theorem jC (n:Int) (w:World) (h:0<=n/\n<=3600000):Calls Tryz.prog 94 #[.int .i64 n] w λe w'=>e= .returned (.bool true)/\w=w':=
 (Zt n w).mono λe w' ⟨he,hw⟩=>⟨by rw[he,(Pt n).2 h],hw⟩
theorem Uh (fx fy fz tx ty tz wait flight rise len:Int) (w:World) (hf:Wk fx fy fz=true):
  Calls Tryz.prog 95 #[.agg #[.int .i64 fx,.int .i64 fy,.int .i64 fz],.agg #[.int .i64 tx,.int .i64 ty,.int .i64 tz,.int .i64 wait,.int .i64 flight,.int .i64 rise],.int .i64 len] w λe w'=>e= .returned (.bool (mvB fx fy fz tx ty tz wait flight rise len))/\Below w.heap.size w w':=by
 cases h1:Wk tx ty tz
 ·
  have HF:Hid (mvB fx fy fz tx ty tz wait flight rise len=false):=by unfold mvB Hid;simp[h1]
  have H1:=Δ h1
  clear h1 hf
  go_enter func95,ntmps95
  go_wp2_with fail
  refine(Gg _ _ _ _).mono ?_
  rintro e w1 ⟨rfl,hb⟩
  rw[H1.out]
  go_wp2_with fail
  go_ret
  exact⟨Fh HF.out.symm,((Ψ.alloc ζ _).alloc (by simp) _).trans (hb.mono (by simp;omega))⟩
 ·
  have H1:=Δ h1
  have HF:=Δ hf
  clear h1 hf
  by_cases hT:(cY wait&&cY flight&&cY rise)=true
  ·
   have HT:=Δ hT
   simp only[Bool.and_eq_true,Pt] at hT
   obtain⟨⟨⟨t1,t2⟩,t3,t4⟩,t5,t6⟩:=hT
   have B1:Hid (-1048576<=fz/\fz<=1048576):=((Mr _ _ _).1 HF.out).2.2
   have B2:Hid (-1048576<=tz/\tz<=1048576):=((Mr _ _ _).1 H1.out).2.2
   go_enter func95,ntmps95
   go_wp2_with fail
   refine(Gg _ _ _ _).mono ?_
   rintro e w1 ⟨rfl,hb⟩
   rw[H1.out]
   have hz:=hb.size
   have hB:=((Ψ.alloc ζ _).alloc (by simp) _).trans (hb.mono (show w.heap.size<=_ by simp;omega))
   obtain⟨hc,hfz⟩:=Gl hb
   simp at hz hc
   go_wp2_with (first
    |(
     go_at_call 94
     refine(jC _ _ ?_).mono ?_
     · omega
     rintro e w' ⟨rfl,rfl⟩)
    |(
     go_at_call 118
     refine(zL _ _ _ _ _ ?_ ?_).mono ?_
     · first|exact B1.out|exact B2.out
     · omega
     rintro e w2 ⟨rfl,hb2⟩
     have hB:=hB.trans (hb2.mono hB.size)
     have hc2:∀b o,b<w.heap.size+1+1->w2.cell? ⟨b,o,none⟩=_:=λb o h=>hb2.cell (p:=⟨b,o,none⟩) (show b<_ by omega)
     have hz:=Nat.le_trans hz hb2.size))
   all_goals
    go_ret
    refine⟨Fh ?_,by assumption⟩
    rw[Aod H1.out HT.out]
    clear hc
    go_light
    (try simp only[beq_iff_eq,beq_eq_false_iff_ne,ne_eq] at*)
    first
     |(simp[*];done)
     |(simp[*];omega)
     |(rw[Bool.eq_iff_iff];simp[*];omega)
  ·
   have HT:Hid (mvB fx fy fz tx ty tz wait flight rise len=false):=by
    unfold mvB Hid
    cases a1:cY wait<;>cases a2:cY flight<;>cases a3:cY rise<;>simp_all
   have HN:=Δ hT
   clear hT
   go_enter func95,ntmps95
   go_wp2_with fail
   refine(Gg _ _ _ _).mono ?_
   rintro e w1 ⟨rfl,hb⟩
   rw[H1.out]
   have hz:=hb.size
   have hB:=((Ψ.alloc ζ _).alloc (by simp) _).trans (hb.mono (show w.heap.size<=_ by simp;omega))
   obtain⟨hc,hfz⟩:=Gl hb
   simp at hz hc
   go_wp2_with (go_at_call 94;refine(Zt _ _).mono ?_;rintro e w' ⟨rfl,rfl⟩)
   all_goals first
    |(exfalso;apply HN.out;simp[*];done)
    |(go_ret;exact⟨Fh HT.out.symm,hB⟩)
def Io (a b:V3) (f t k:Int):List Sg:=if Yq a b f t=true then [Yw a b f t k] else []
theorem Lm (a b:V3) (f t k:Int):(Io a b f t k).length<=1:=by unfold Io;split<;>simp
theorem Hc.both {w:World} {a b:V3} {f t k:Int} {e:Ending} {w':World} (h:Hc w a b f t k e w'):
  ∃A c q,e= .returned (.tuple #[.slice A (Io a b f t k).length c,.int .i64 q])/\Cq w' w.heap.size w'.heap.size (.slice A (Io a b f t k).length c) (Io a b f t k)/\Below w.heap.size w w'/\(q=if Yq a b f t=true then 0 else 2):=by
 unfold Hc at h
 unfold Io
 split at h
 rename_i hf
 obtain⟨v,he,hp,hb⟩:=h
 obtain⟨A,c,rfl⟩:=hp.slice
 simp only[hf,if_true]
 exact⟨A,c,0,he,hp,hb,rfl⟩
 rename_i hf
 simp only[hf]
 exact⟨none,0,2,h.1,Cq.nil _ _,h.2,rfl⟩
theorem Uw (x y z f t:Int) (B base:Nat) (sv:Value) (ss:List Sg) (w:World) (hP:Cc w B base sv ss) (hB:B<base) (hbl:base<=w.heap.size) (hlen:ss.length<=1000000):
  Calls Tryz.prog 119 #[.agg #[.int .i64 x,.int .i64 y,.int .i64 z],.int .i64 f,.int .i64 t,.pointer (some ⟨B,0,none⟩)] w λe w'=>∃sv',e= .returned (.tuple #[])/\Cc w' B base sv' (ss++Io ⟨x,y,z⟩ ⟨x,y,z⟩ f t 0)/\Below B w w':=by
 obtain⟨i0,hi0,hz0,hz1,hz2⟩:=info_parts Us
 obtain⟨A0,c0,hsv⟩:=hP.slice
 subst hsv
 have hBlt:B<w.heap.size:=by omega
 go_enter func119,ntmps119
 go_wp2_with fail
 refine(Adx _ _ _ _ _ _).mono ?_
 intro e w1 h
 obtain⟨A,c,q,rfl,hp,hb,hq⟩:=h.both
 clear h hq
 have hal:Below w.heap.size w (w.alloc (.cells #[.int .i64 x,.int .i64 y,.int .i64 z] 33)):=Ψ.alloc ζ _
 have hP1:=(hP.up hal).up hb
 have hb1:Below w.heap.size w w1:=hal.trans (hb.mono (by simp))
 have hcell:=hP1.cell
 have hfro:=hP1.frozen 0
 have hl1:=Lm ⟨x,y,z⟩ ⟨x,y,z⟩ f t 0
 obtain⟨cs,hrow,hsegs⟩:=hP1.row
 obtain⟨news,hsn,hgn⟩:=hp
 rw[World.size_alloc] at hgn hsn
 have hz:=hb.size
 simp only[World.size_alloc] at hz
 have hrl:∀g,(Value.slice A0 ss.length c0).ownBlock=some g->g<w.heap.size:=by
  intro g hg
  obtain⟨_,hr0,_⟩:=hP.row
  exact(hr0.lt g hg).2
 generalize hF:Io ⟨x,y,z⟩ ⟨x,y,z⟩ f t 0=F at*
 have HF:=Δ hF
 clear hF
 go_wp2_with (at_builtin;refine Fr rfl (.tmp 16) (.tmp 17) 89 rfl base 141 i0 _ 6 96 underlying89 hi0 hz0 hz1 hz2 rfl δ _ _ _ rfl hrow _ _ _ _ rfl hsn hgn.oneCell ?_ ?_ ?_ ?_)
 · unfold maxLen;omega
 · omega
 · omega
 intro v' w2 hown hg hat
 obtain⟨hb2,hP2,hBe⟩:=Cc.appended hP1.box hB ω hrow hsegs hgn (lo:=w.heap.size+1) ω (λg hg=>by have:=hrl g hg;omega) hown hg hat
 obtain⟨A2,c2,hv2⟩:=hP2.slice
 rw[List.length_append] at hv2
 subst hv2
 have hc2:w2.cell? ⟨B,0,none⟩=some (.slice A0 ss.length c0):=by simp[World.cell?,hb2]
 have hf2:w2.frozen? ⟨B,0,none⟩=false:=by simp[World.frozen?,hb2]
 clear hcell hfro hg hat hb2 hown
 go_wp2
 go_end0
 rw[HF.out]
 exact⟨_,rfl,hP2,(hb1.mono ω).trans hBe⟩
def cH (a b:V3) (wait flight start len:Int):List Sg:=
 if flight=0 then Io a a start (start+len) 0
 else Io a a start (start+wait) 0++Io a b (start+wait) (start+wait+flight) 2++Io b b (start+wait+flight) (start+len) 0
theorem Cc.at_ {W:World} {B base:Nat} {sv:Value} {ss:List Sg} (h:Cc W B base sv ss):Cq W base W.heap.size sv ss:=by
 obtain⟨cs,hr,hs⟩:=h.row
 exact⟨cs,Bv.own hr,hs.more λb hd=>⟨hd.1,hd.2.1⟩⟩
theorem iK {w wa:World} {B base:Nat} {sv:Value} {ss:List Sg} (h:Cq wa base wa.heap.size sv ss) (hB:B<base) (hw:w.heap.size<=B) (hb:Below w.heap.size w wa) {u:Value}:
  ∃v,Ending.returned sv= .returned v/\Cq (wa.setCell ⟨B,0,none⟩ u) w.heap.size (wa.setCell ⟨B,0,none⟩ u).heap.size v ss/\Below w.heap.size w (wa.setCell ⟨B,0,none⟩ u):=by
 have hg:wa.grownBy (wa.setCell ⟨B,0,none⟩ u) (some B):=Kt ⟨rfl,rfl,rfl,Nat.le_refl _,λ_ _ _=>rfl⟩ 0 u
 exact⟨sv,rfl,(h.keepG hg ζ (by rintro b ⟨rfl⟩;exact .inl hB)).more ω hg.size,hb.setCell hw u⟩
theorem Aap (x y z x' y' z' wait flight rise start len:Int) (w:World) (hf:flight=0) (hs:0<=start/\start<=3600000) (hl:0<=len/\len<=3600000) (hw:0<=wait/\wait<=3600000):
  Calls Tryz.prog 96 #[.agg #[.int .i64 x,.int .i64 y,.int .i64 z],.agg #[.int .i64 x',.int .i64 y',.int .i64 z',.int .i64 wait,.int .i64 flight,.int .i64 rise],.int .i64 start,.int .i64 len] w λe w'=>∃v,e= .returned v/\Cq w' w.heap.size w'.heap.size v (cH ⟨x,y,z⟩ ⟨x',y',z'⟩ wait flight start len)/\Below w.heap.size w w':=by
 have HS:Hid (cH ⟨x,y,z⟩ ⟨x',y',z'⟩ wait flight start len=Io ⟨x,y,z⟩ ⟨x,y,z⟩ start (start+len) 0):=by unfold Hid cH;rw[if_pos hf]
 have hfb:(flight==0)=true:=by simp[hf]
 obtain⟨s1,s2⟩:=hs
 obtain⟨l1,l2⟩:=hl
 obtain⟨w1,w2⟩:=hw
 have f1:0<=flight:=by omega
 have f2:flight<=0:=by omega
 clear hf
 go_enter func96,ntmps96
 go_wp2_with fail
 refine(Uw _ _ _ _ _ _ (w.heap.size+1+1+1) _ [] _ (Cc.new _ _ _ (by simp)) ω (by simp) (by simp)).mono ?_
 rintro e wa ⟨sv,rfl,hP,hb⟩
 obtain⟨A,c,hsv⟩:=hP.slice
 subst hsv
 have hcell:=hP.cell
 have hfro:=hP.frozen 0
 have hz:=hb.size
 have hB:Below w.heap.size w wa:=(((Ψ.alloc ζ _).alloc (by simp) _).alloc (by simp;omega) _).trans (hb.mono ω)
 go_wp2
 refine bodyPost_ret (v:= .slice A ([]++Io ⟨x,y,z⟩ ⟨x,y,z⟩ start (start+len) 0).length c) (by simp[results,results96,go_sem,hcell]) rfl ?_
 rw[HS.out]
 exact iK hP.at_ ω ω hB
theorem AdZ (x y z x' y' z' wait flight rise start len:Int) (w:World) (hf:0<flight/\flight<=3600000) (hr:rise<=0) (hs:0<=start/\start<=3600000) (hl:0<=len/\len<=3600000) (hw:0<=wait/\wait<=3600000):
  Calls Tryz.prog 96 #[.agg #[.int .i64 x,.int .i64 y,.int .i64 z],.agg #[.int .i64 x',.int .i64 y',.int .i64 z',.int .i64 wait,.int .i64 flight,.int .i64 rise],.int .i64 start,.int .i64 len] w λe w'=>∃v,e= .returned v/\Cq w' w.heap.size w'.heap.size v (cH ⟨x,y,z⟩ ⟨x',y',z'⟩ wait flight start len)/\Below w.heap.size w w':=by
 have HS:Hid (cH ⟨x,y,z⟩ ⟨x',y',z'⟩ wait flight start len=Io ⟨x,y,z⟩ ⟨x,y,z⟩ start (start+wait) 0++Io ⟨x,y,z⟩ ⟨x',y',z'⟩ (start+wait) (start+wait+flight) 2++Io ⟨x',y',z'⟩ ⟨x',y',z'⟩ (start+wait+flight) (start+len) 0):=by unfold Hid cH;rw[if_neg ω]
 obtain⟨i0,hi0,hz0,hz1,hz2⟩:=info_parts Us
 obtain⟨f1,f2⟩:=hf
 have hfb:(flight==0)=false:=beq_eq_false_iff_ne.2 ω
 obtain⟨s1,s2⟩:=hs
 obtain⟨l1,l2⟩:=hl
 obtain⟨w1,w2⟩:=hw
 go_enter func96,ntmps96
 go_wp2_with fail
 refine(Uw _ _ _ _ _ _ (w.heap.size+1+1+1) _ [] _ (Cc.new _ _ _ (by simp)) ω (by simp) (by simp)).mono ?_
 rintro e wa ⟨sv,rfl,hP,hb⟩
 obtain⟨A,c,hsv⟩:=hP.slice
 subst hsv
 have hz:=hb.size
 have hB:Below w.heap.size w wa:=(((Ψ.alloc ζ _).alloc (by simp) _).alloc (by simp;omega) _).trans (hb.mono ω)
 obtain⟨hc,hfz⟩:=Gl hb
 simp only[World.size_alloc] at hz
 go_wp2_with fail
 refine(mI _ _ _ _ _ _ _ _ _).mono ?_
 intro e wb h
 obtain⟨A1,c1,q,rfl,hp,hb1,hq⟩:=h.both
 clear h hq
 have hPb:=hP.up hb1
 have hBb:=hB.trans (hb1.mono hB.size)
 have hc1:∀b o,b<w.heap.size+1+1->wb.cell? ⟨b,o,none⟩=_:=λb o h=>(hb1.cell (p:=⟨b,o,none⟩) (show b<_ by omega)).trans (hc b o h)
 have hcell:=hPb.cell
 have hfro:=hPb.frozen 0
 obtain⟨cs,hrow,hsegs⟩:=hPb.row
 obtain⟨news,hsn,hgn⟩:=hp
 have hl1:=Lm ⟨x,y,z⟩ ⟨x,y,z⟩ start (start+wait) 0
 have hl2:=Lm ⟨x,y,z⟩ ⟨x',y',z'⟩ (start+wait) (start+wait+flight) 2
 have hrl:∀g,(Value.slice A ([]++Io ⟨x,y,z⟩ ⟨x,y,z⟩ start (start+wait) 0).length c).ownBlock=some g->g<wa.heap.size:=by
  intro g hg
  obtain⟨_,hr0,_⟩:=hP.row
  exact(hr0.lt g hg).2
 have hzb:=hb1.size
 generalize hF1:Io ⟨x,y,z⟩ ⟨x,y,z⟩ start (start+wait) 0=L1 at*
 generalize hF2:Io ⟨x,y,z⟩ ⟨x',y',z'⟩ (start+wait) (start+wait+flight) 2=L2 at*
 clear hF1 hF2 hc hfz
 simp only[List.nil_append] at*
 go_wp2_with (at_builtin;refine Fr rfl (.tmp 62) (.tmp 63) 89 rfl (w.heap.size+1+1+1) 141 i0 _ 6 96 underlying89 hi0 hz0 hz1 hz2 rfl δ _ _ _ rfl hrow _ _ _ _ rfl hsn hgn.oneCell ?_ ?_ ?_ ?_)
 · unfold maxLen;omega
 · omega
 · omega
 intro v' wc hown hg hat
 obtain⟨hbc,hPc,hBe⟩:=Cc.appended hPb.box ω ω hrow hsegs hgn ω hrl hown hg hat
 obtain⟨A2,c2,hv2⟩:=hPc.slice
 rw[List.length_append] at hv2
 subst hv2
 have hcc:wc.cell? ⟨w.heap.size+1+1,0,none⟩=some (.slice A L1.length c):=by simp[World.cell?,hbc]
 have hfc:wc.frozen? ⟨w.heap.size+1+1,0,none⟩=false:=by simp[World.frozen?,hbc]
 have hcs:∀b o,b<w.heap.size+1+1->(wc.setCell ⟨w.heap.size+1+1,0,none⟩ (.slice A2 (L1.length+L2.length) c2)).cell? ⟨b,o,none⟩=_:=λb o h=>(hBe.cell (p:=⟨b,o,none⟩) (show b<_ by omega)).trans (hc1 b o h)
 have hBc:=hBb.trans (hBe.mono ω)
 have hzc:=hBe.size
 clear hcell hfro hown hg hat hbc hc1
 go_wp2_with fail
 refine(Uw _ _ _ _ _ _ (w.heap.size+1+1+1) _ (L1++L2) _ hPc ω ω (by simp;omega)).mono ?_
 rintro e wd ⟨sv,rfl,hPd,hbd⟩
 obtain⟨A3,c3,hsv⟩:=hPd.slice
 subst hsv
 have hcell:=hPd.cell
 have hfro:=hPd.frozen 0
 have hBd:=hBc.trans (hbd.mono ω)
 clear hcs hcc hfc
 go_wp2
 refine bodyPost_ret (v:= .slice A3 (L1++L2++Io ⟨x',y',z'⟩ ⟨x',y',z'⟩ (start+wait+flight) (start+len) 0).length c3) (by simp[results,results96,go_sem,hcell]) rfl ?_
 rw[HS.out]
 exact iK hPd.at_ ω ω hBd
end Go.Proofs.YtkpjchfniejdoaaGreatDoor