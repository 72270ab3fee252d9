/- Part 10 of the proof of IB.row_holds: no condition beyond the row's. -/
import Derived.Test.YtbggmndaahbojaaGreatIb9
import Derived.BigQuiet
set_option maxRecDepth 100000
set_option maxHeartbeats 40000000
namespace Go.Proofs.YtbggmndaahbojaaGreat
open Go.Proofs.Tryz
open Go.RowKit
structure Xs (n m:Nat) (r:Int):Prop where
 lt:r<0↔n<m
 gt:0<r↔m<n
def AeM (n m:Nat) (w:World) (e:Ending) (w':World):Prop:=∃r q,e= .returned (.int .i64 r)/\w'=w.drewN q/\Xs n m r
theorem Pu (n m:Nat) (v v':Value) (lo hi lo' hi':Nat) (w:World) (h:Bf w lo hi v n) (h':Bf w lo' hi' v' m) (hl:(Ae n).length<=1000000) (hl':(Ae m).length<=1000000):
  Calls Tryz.prog 152 #[v,v'] w (AeM n m w):=by
 have hs:=h.1
 have hs':=h'.1
 obtain⟨A,c,rfl⟩:=hs.slice
 obtain⟨A',c',rfl⟩:=hs'.slice
 have HS:=Δ hs
 have HS':=Δ hs'
 clear h h' hs hs'
 by_cases hne:(Ae n).length=(Ae m).length
 case neg=>
  have HR:Hid (Xs n m (((Ae n).length:Int)-((Ae m).length:Int))):=by
   rcases Nat.lt_or_gt_of_ne hne with h|h
   · have:=gC h;exact⟨ω,ω⟩
   · have:=gC h;exact⟨ω,ω⟩
  have hneb:(((Ae n).length:Int) != ((Ae m).length:Int))=true:=by rw[bne_iff_ne];omega
  generalize (Ae n).length=k at*
  generalize (Ae m).length=k' at*
  clear hne
  go_enter func152,ntmps152
  go_wp2_with fail
  go_ret
  exact⟨_,0,rfl,rfl,HR.out⟩
 case pos=>
 have HNE:=Δ hne
 rw[<-hne]
 have hneb:(((Ae n).length:Int) != ((Ae n).length:Int))=false:=by simp
 have HEQ:Hid ((Ae n).drop 0=(Ae m).drop 0->Xs n m 0):=λe=>by
  simp only[List.drop_zero] at e
  have:=sO e
  subst this
  exact⟨ω,ω⟩
 clear hne
 obtain⟨k,hk⟩:∃k,k=(Ae n).length:=⟨_,rfl⟩
 rw[<-hk] at hl hneb
 have HK:=Δ hk
 rw[<-hk]
 clear hk hl'
 go_enter func152,ntmps152
 go_wp2_with fail
 go_loopw [5] (λi wr=>∃j q:Nat,j<=k/\i= .int .i64 ((j:Int)-1)/\wr=w.drewN q/\Hid ((Ae n).drop j=(Ae m).drop j)) (λi _=>(intOf i+1).toNat)
 case atStart=>exact⟨k,0,Nat.le_refl _,rfl,rfl,by unfold Hid;rw[List.drop_of_length_le (by rw[HK.out];exact Nat.le_refl _),List.drop_of_length_le (by rw[<-HNE.out,HK.out];exact Nat.le_refl _)]⟩
 case round=>
  obtain⟨j,q,hj,rfl,rfl,HD⟩:=hrel
  by_cases h0:j=0
  ·
   subst h0
   have HR:=Δ (HEQ.out HD.out)
   go_wp2_with fail
   go_ret
   exact⟨_,q,rfl,rfl,HR.out⟩
  ·
   obtain⟨b,o,c1,e,_,_,hc⟩:=HS.out.pos (by have:=HK.out;omega)
   obtain⟨b',o',c1',e',_,_,hc'⟩:=HS'.out.pos (by have:=HK.out;have:=HNE.out;omega)
   have hkA:j-1<(Ae n).length:=by have:=HK.out;omega
   have hkB:j-1<(Ae m).length:=by have:=HK.out;have:=HNE.out;omega
   have g0:w.cell? ⟨b,o+(j-1),none⟩=some (.int .u64 (dg (Ae n) (j-1):Int)):=hc _ _ (Ct _ _ hkA)
   have g1:w.cell? ⟨b',o'+(j-1),none⟩=some (.int .u64 (dg (Ae m) (j-1):Int)):=hc' _ _ (Ct _ _ hkB)
   have hA:A=some ⟨b,o,none⟩:=by cases e;rfl
   have hA':A'=some ⟨b',o',none⟩:=by cases e';rfl
   subst hA hA'
   have HD':Hid ((Ae n).drop (j-1+1)=(Ae m).drop (j-1+1)):=by unfold Hid;rw[show j-1+1=j by omega];exact HD.out
   have HLT:Hid (dg (Ae n) (j-1)<dg (Ae m) (j-1)->Xs n m (-1)):=λh=>by
    have:=Tg (Cb n) hkA hkB HD'.out h
    rw[Bt,Bt] at this
    exact⟨ω,ω⟩
   have HGT:Hid (dg (Ae m) (j-1)<dg (Ae n) (j-1)->Xs n m 1):=λh=>by
    have:=Tg (Cb m) hkB hkA HD'.out.symm h
    rw[Bt,Bt] at this
    exact⟨ω,ω⟩
   have HSM:Hid (dg (Ae n) (j-1)=dg (Ae m) (j-1)->(Ae n).drop (j-1)=(Ae m).drop (j-1)):=λh=>dE hkA hkB HD'.out h
   clear hc hc' e e'
   generalize dg (Ae n) (j-1)=x at*
   generalize dg (Ae m) (j-1)=y at*
   have hjs:(j:Int)-1=((j-1:Nat):Int):=by omega
   rw[hjs]
   obtain⟨i,hi⟩:∃i,i=j-1:=⟨_,rfl⟩
   rw[<-hi] at g0 g1 ⊢
   have hik:(i:Int)<(k:Int):=by omega
   have hikn:i<k:=by omega
   have hi0:(0:Int)<=(i:Int):=by omega
   have HI:=Δ hi
   clear hjs hi hkA hkB
   rcases Nat.lt_trichotomy x y with hlt|heq|hgt
   ·
    have HR:=Δ (HLT.out hlt)
    have h1:(x:Int)<(y:Int):=by omega
    clear hlt
    go_wp2_with fail
    go_quiet (fail)
    go_wp2_with fail
    go_ret
    exact⟨-1,q+nq,rfl,by simp only[World.drewN_drewN],HR.out⟩
   ·
    subst heq
    have HR:=Δ (HSM.out rfl)
    have h1:¬(x:Int)<(x:Int):=by omega
    go_wp2_with fail
    go_quiet (fail)
    go_wp2_with fail
    go_quiet (fail)
    go_wp2_with fail
    exact⟨⟨i,_,ω,rfl,rfl,by rw[HI.out];exact HR.out⟩,by simp[intOf]⟩
   ·
    have HR:=Δ (HGT.out hgt)
    have h1:¬(x:Int)<(y:Int):=by omega
    have h2:(y:Int)<(x:Int):=by omega
    clear hgt
    go_wp2_with fail
    go_quiet (fail)
    go_wp2_with fail
    go_quiet (fail)
    go_wp2_with fail
    go_ret
    rename_i n1 _
    exact⟨1,q+n1+nq,rfl,by simp only[World.drewN_drewN],HR.out⟩
end Go.Proofs.YtbggmndaahbojaaGreat