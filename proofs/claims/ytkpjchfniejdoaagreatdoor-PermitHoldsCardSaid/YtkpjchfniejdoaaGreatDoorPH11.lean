/- Part 11 of the proof of PH.card_holds: no condition beyond the row's. -/
import Derived.Test.YtkpjchfniejdoaaGreatDoorPH10
import Derived.RangeFuncFrom
import Derived.RangeFuncLeaves
import Derived.RangeFuncBox
import Derived.OrdersIn
set_option maxRecDepth 100000
set_option maxHeartbeats 40000000
namespace Go.Proofs.YtkpjchfniejdoaaGreatDoor
open Go.RowKit
structure Ce (Pv:Nat->Prop) (W W':World):Prop where
 os:W'.os=W.os
 tape:W'.tape=W.tape
 output:W'.output=W.output
 size:W.heap.size<=W'.heap.size
 block:∀b,b<W.heap.size->¬Pv b->W'.heap[b]?=W.heap[b]?
theorem Ce.refl (Pv:Nat->Prop) (W:World):Ce Pv W W:=⟨rfl,rfl,rfl,Nat.le_refl _,λ_ _ _=>rfl⟩
theorem Ce.trans {Pv:Nat->Prop} {A B C:World} (h:Ce Pv A B) (k:Ce Pv B C):Ce Pv A C:=
 ⟨k.os.trans h.os,k.tape.trans h.tape,k.output.trans h.output,Nat.le_trans h.size k.size,λb hb hn=>(k.block b (Nat.lt_of_lt_of_le hb h.size) hn).trans (h.block b hb hn)⟩
theorem Ce.of_below {Pv:Nat->Prop} {A B:World} (h:Below A.heap.size A B):Ce Pv A B:=⟨h.os,h.tape,h.output,h.size,λb hb _=>h.block b hb⟩
theorem Ce.mono {Pv Pv':Nat->Prop} {A B:World} (h:Ce Pv A B) (hp:∀b,Pv b->Pv' b):Ce Pv' A B:=⟨h.os,h.tape,h.output,h.size,λb hb hn=>h.block b hb (λe=>hn (hp b e))⟩
theorem Ce.putObj {Pv:Nat->Prop} (W:World) (l:Nat) (o:Obj) (hl:Pv l):Ce Pv W (W.putObj l o):=
 ⟨rfl,rfl,rfl,by simp,λb _ hn=>World.putObj_heap_other (λe=>hn (by rw[e];exact hl))⟩
theorem Ce.setCell {Pv:Nat->Prop} (W:World) (p:Addr) (u:Value) (hl:Pv p.block):Ce Pv W (W.setCell p u):=
 ⟨rfl,rfl,rfl,by simp[World.setCell],λb _ hn=>Below.heap_setCell W p u b (λe=>hn (by rw[e];exact hl))⟩
theorem Ce.cell {Pv:Nat->Prop} {W W':World} (h:Ce Pv W W') {b o:Nat} (hb:b<W.heap.size) (hn:¬Pv b):W'.cell? ⟨b,o,none⟩=W.cell? ⟨b,o,none⟩:=World.cell?_of_block (h.block b hb hn)
def Ac6 (gf:Nat) (lb:Array Value) (N:Nat) (Item:Nat->Nat->World->Array Value->Prop) (T:Nat->Prop) (w:World):Prop:=
 ∀(l:Nat) (σ:Type) (J:σ->Nat->World->Prop) (Pv:σ->Nat->Prop) (Jx:World->Prop) (W:World) (s0:σ),
  Below w.heap.size w W->
  (∀s k A B,J s k A->A.grownBy B none->J s k B)->
  (∀s k A b,J s k A->Pv s b->b<A.heap.size)->
  (∀s k A b,J s k A->T b->¬Pv s b)->
  (∀s k A0 A args,k<N->w.heap.size<=A0.heap.size->J s k A0->Below A0.heap.size A0 A->J s k A->Item A0.heap.size k A args->YieldAt Fence.wide 0 Tryz.prog l args A λe B=>
   (e= .returned (.bool true)/\∃s',J s' (k+1) B/\Ce (Pv s) A B/\∀b,Pv s' b->Pv s b\/A.heap.size<=b)\/(e= .returned (.bool false)/\Jx B))->
  J s0 0 W->
  CallsIn Fence.wide 0 Tryz.prog gf (#[.func (.yield l) #[] #[]]++lb) W λe B=>(∃v,e= .returned v)/\((∃s,J s N B)\/Jx B)
def Ac9 {σ:Type} (I:σ->Nat->World->Prop) (Pv:σ->Nat->Prop) (X:Code->World->Prop) (s:σ) (k:Nat) (size:Nat) (W:World):Exit->Act->World->Prop
 | .normal,_,B=>KeepsOthers W B/\Ce (Pv s) W B/\∃s',I s' (k+1) B/\∀b,Pv s' b->Pv s b\/size<=b
 | .ret,_,B=>KeepsOthers W B/\X .ret B
 | .exit id,_,B=>KeepsOthers W B/\X (.exit id) B
 | .goto t,_,B=>KeepsOthers W B/\X (.goto t) B
 | .panic _,_,_=>False
 | .outgrown,_,_=>False
theorem aV {σ:Type} {g:Operand} {ps:Array Tmp} {assign body:Code} {Q:Exit->Act->World->Prop} {a:Act} {w w0:World} {gf:Nat} {lb:Array Value} {N:Nat} {Item:Nat->Nat->World->Array Value->Prop} {T:Nat->Prop}
  (hg:a.eval g= .func (.func gf) #[] lb) (eg:∀args w,(callFunc gf args).run Tryz.prog w= .ok (.enter gf args) w) (hiter:Ac6 gf lb N Item T w0) (hb0:Below w0.heap.size w0 w) (hT:∀b,T b->b<w.heap.size)
  (hps:∀lo k A args,Item lo k A args->args.size=ps.size)
  (I:σ->Nat->World->Prop) (Pv:σ->Nat->Prop) (X:Code->World->Prop) (s0:σ)
  (hI:∀s k,OwnFrom w.heap.size (λ(_:Unit) A=>I s k A)) (hX:∀c,OwnFrom w.heap.size (λ(_:Unit) A=>X c A))
  (hlt:∀s k A b,I s k A->Pv s b->b<A.heap.size) (hTP:∀s k A b,I s k A->T b->¬Pv s b) (h0:I s0 0 w)
  (M:σ->Nat->Array Value->Act->World->Prop) (hM:∀s k args a',OwnFrom w.heap.size (λ(_:Unit) A=>M s k args a' A))
  (hassign:∀l s k A0 A args,k<N->w0.heap.size<=A0.heap.size->I s k A0->Below A0.heap.size A0 A->I s k A->Item A0.heap.size k A args->
   assign.wpIn (Fence.wide.inRound l) 0 Tryz.prog (Exit.then (λa' B=>M s k args a' B/\KeepsOthers A B/\Ce (Pv s) A B) (λ_ _ _=>False)) { tmps:=(ps.zip args).foldl (λt (p,v)=>t.setIfInBounds p v) a.tmps,defers:=[] } A)
  (hbody:∀l s k A args a' size,k<N->M s k args a' A->size<=A.heap.size->body.wpIn (Fence.wide.inRound l) 0 Tryz.prog (Ac9 I Pv X s k size A) a' A)
  (hdone:∀D s A,w.heap.size<=D->I s N A->A.heap[D]?=some (.deferred (some []))->Q .normal { a with defers:={ target:= .collected D,args:=#[] }::a.defers } A)
  (hstop:∀D c A,w.heap.size<=D->X c A->A.heap[D]?=some (.deferred (some []))->c.wp Tryz.prog Q { a with defers:={ target:= .collected D,args:=#[] }::a.defers } A):
  (Code.rangeFunc g ps assign body).wp Tryz.prog Q a w:=by
 rw[<-wpIn_wide (n:=0)]
 refine wpIn_rangeFunc ?_
 intro fn hfn
 show ∃l mark w₁ d w₁' f args w₂,(Instr.enterLoop fn a.tmps ps assign body none).run Tryz.prog w=_/\_
 obtain⟨rec,hrec⟩:∃rec:LoopState->Option Code->Loop,rec=λst pe=>{ state:=st,pending:=pe,fn,tmps:=a.tmps,params:=ps,assign,body,defers:=w.heap.size }:=⟨_,rfl⟩
 obtain⟨W1,hW1⟩:∃W1,(w.alloc (.deferred (some []))).alloc (.loop (rec .ready none))=W1:=⟨_,rfl⟩
 have hL1:W1.heap[w.heap.size+1]?=some (.loop (rec .ready none)):=by
  rw[<-hW1];have:=World.alloc_heap_new (w.alloc (.deferred (some []))) (.loop (rec .ready none));rwa [World.size_alloc] at this
 have hK1:W1.heap[w.heap.size]?=some (.deferred (some [])):=by
  rw[<-hW1];exact(Below.heap_alloc _ _ _ (by simp)).trans (World.alloc_heap_new w _)
 have hI1:I s0 0 W1:=by
  rw[<-hW1]
  exact(hI s0 0).alloc (s:=()) _ ((hI s0 0).alloc (s:=()) _ h0)
 have hb1:Below w0.heap.size w0 W1:=by
  rw[<-hW1];exact hb0.trans ((((Below.refl _ w).alloc ζ _).alloc (by simp) _).mono hb0.size)
 have hz1:W1.heap.size=w.heap.size+2:=by rw[<-hW1];simp
 refine⟨w.heap.size+1,[{ target:= .collected w.heap.size,args:=#[] }],W1,{ target:= .fn (.func gf) lb,args:=#[.func (.yield (w.heap.size+1)) #[] #[]] },W1,gf,
  #[.func (.yield (w.heap.size+1)) #[] #[]]++lb,W1,?_,?_,?_,?_,λ_=>by simp_all [Fence.wide],?_⟩
 · rw[<-hW1,hrec];exact run_enterLoop_outer _ _ _ _ _
 ·
  simp only[resolve,hg]
  simp[go_sem]
 · intro f' _;trivial
 · simp[invoke,go_sem,eg]
 ·
  refine(hiter (w.heap.size+1) σ
   (λs k A=>I s k A/\A.heap[w.heap.size+1]?=some (.loop (rec .ready none))/\A.heap[w.heap.size]?=some (.deferred (some [])))
   (λs b=>Pv s b\/b=w.heap.size+1\/b=w.heap.size)
   (λA=>∃c,X c A/\A.heap[w.heap.size+1]?=some (.loop (rec .done (some c)))/\A.heap[w.heap.size]?=some (.deferred (some [])))
   W1 s0 hb1 ?_ ?_ ?_ ?_ ⟨hI1,hL1,hK1⟩).mono ?_
  ·
   rintro s k A B ⟨hi,hl,hk⟩ hg'
   refine⟨hI s k () A B none hi hg' (λr e=>by cases e),?_,?_⟩
   · exact(hg'.block _ (Ξ hl).1 (by simp)).trans hl
   · exact(hg'.block _ (Ξ hk).1 (by simp)).trans hk
  ·
   rintro s k A b ⟨hi,hl,hk⟩ (hp|rfl|rfl)
   · exact hlt s k A b hi hp
   · exact(Ξ hl).1
   · exact(Ξ hk).1
  ·
   rintro s k A b ⟨hi,_,_⟩ hTb (hp|rfl|rfl)
   · exact hTP s k A b hi hTb hp
   · have:=hT _ hTb;omega
   · have:=hT _ hTb;omega
  ·
   rintro s k A0 A args hk hz0 ⟨hi0,_,_⟩ hbA ⟨hi,hl,hd⟩ hitem
   have hlt2:w.heap.size+1<A.heap.size:=(Ξ hl).1
   have hy:=run_yield (P:=Tryz.prog) (args:=args) hl (by rw[hrec];exact hps _ k A args hitem)
   rw[hrec] at hy
   refine⟨fn,_,assign,body,hy,roundIn_of_wpIn hfn (wpIn_mono (hassign (w.heap.size+1) s k A0 A args hk hz0 hi0 hbA hi hitem) ?_)⟩
   rintro e a1 A1 hp
   cases e with
   |normal=>
    obtain⟨hm,hko1,hkp1⟩:=hp
    have hl1:=hko1.same _ _ hl rfl
    have hd1:=hko1.same _ _ hd rfl
    have hlt1:w.heap.size+1<A1.heap.size:=(Ξ hl1).1
    refine⟨_,run_beginRound hl1 (by rw[hrec]),?_⟩
    have hl2:(A1.putObj (w.heap.size+1) (.loop { rec .ready none with state:= .busy })).heap[w.heap.size+1]?=some (.loop { rec .ready none with state:= .busy }):=World.putObj_heap_same hlt1
    have hd2:(A1.putObj (w.heap.size+1) (.loop { rec .ready none with state:= .busy })).heap[w.heap.size]?=some (.deferred (some [])):=(World.putObj_heap_other ω).trans hd1
    have hm2:=(hM s k args a1).putObj (s:=()) (.loop { rec .ready none with state:= .busy }) hm ω hl1 rfl
    have hsz2:A.heap.size<=(A1.putObj (w.heap.size+1) (.loop { rec .ready none with state:= .busy })).heap.size:=by rw[World.putObj_size];exact hkp1.size
    refine wpIn_mono (hbody (w.heap.size+1) s k _ args a1 A.heap.size hk hm2 hsz2) ?_
    have fin:∀(jump:Option Code) (W3:World),KeepsOthers (A1.putObj (w.heap.size+1) (.loop { rec .ready none with state:= .busy })) W3->
      (Instr.endRound (w.heap.size+1) jump).run Tryz.prog W3= .ok (.bool jump.isNone) (W3.putObj (w.heap.size+1) (.loop (rec (if jump.isNone then .ready else .done) jump)))/\
      W3.heap[w.heap.size+1]?=some (.loop { rec .ready none with state:= .busy })/\
      (W3.putObj (w.heap.size+1) (.loop (rec (if jump.isNone then .ready else .done) jump))).heap[w.heap.size+1]?=some (.loop (rec (if jump.isNone then .ready else .done) jump))/\
      (W3.putObj (w.heap.size+1) (.loop (rec (if jump.isNone then .ready else .done) jump))).heap[w.heap.size]?=some (.deferred (some [])):=λjump W3 hk3=>by
     have hl3:=hk3.same _ _ hl2 rfl
     have:=run_endRound (P:=Tryz.prog) jump hl3
     rw[hrec] at this ⊢
     exact⟨this,by rw[hrec] at hl3;exact hl3,World.putObj_heap_same (Ξ hl3).1,(World.putObj_heap_other ω).trans (hk3.same _ _ hd2 rfl)⟩
    have hPl:(λb=>Pv s b\/b=w.heap.size+1\/b=w.heap.size) (w.heap.size+1):= .inr (.inl rfl)
    rintro e a3 W3 hp
    cases e with
    |normal=>
     obtain⟨hk3,hkp3,s',hi3,hs'⟩:=hp
     obtain⟨hr,hl3,hl4,hk4⟩:=fin none W3 hk3
     refine⟨_,_,hr,.inl ⟨rfl,s',⟨(hI s' (k+1)).putObj (s:=()) _ hi3 ω hl3 rfl,hl4,hk4⟩,?_,?_⟩⟩
     · exact(((hkp1.mono λb=> .inl).trans (Ce.putObj _ _ _ hPl)).trans (hkp3.mono λb=> .inl)).trans (Ce.putObj _ _ _ hPl)
     ·
      rintro b (hb|hb|hb)
      ·
       rcases hs' b hb with h|h
       · exact .inl (.inl h)
       · exact .inr h
      · exact .inl (.inr (.inl hb))
      · exact .inl (.inr (.inr hb))
    |ret=>
     obtain⟨hk3,hi3⟩:=hp
     obtain⟨hr,hl3,hl4,hk4⟩:=fin (some .ret) W3 hk3
     exact⟨_,_,hr,.inr ⟨rfl,.ret,(hX _).putObj (s:=()) _ hi3 ω hl3 rfl,hl4,hk4⟩⟩
    |exit id=>
     obtain⟨hk3,hi3⟩:=hp
     obtain⟨hr,hl3,hl4,hk4⟩:=fin (some (.exit id)) W3 hk3
     exact⟨_,_,hr,.inr ⟨rfl,.exit id,(hX _).putObj (s:=()) _ hi3 ω hl3 rfl,hl4,hk4⟩⟩
    |goto t=>
     obtain⟨hk3,hi3⟩:=hp
     obtain⟨hr,hl3,hl4,hk4⟩:=fin (some (.goto t)) W3 hk3
     exact⟨_,_,hr,.inr ⟨rfl,.goto t,(hX _).putObj (s:=()) _ hi3 ω hl3 rfl,hl4,hk4⟩⟩
    |panic ch=>exact hp.elim
    |outgrown=>exact hp.elim
   |ret=>exact hp.elim
   |exit id=>exact hp.elim
   |goto t=>exact hp.elim
   |panic ch=>exact hp.elim
   |outgrown=>exact hp.elim
  ·
   rintro e W2 ⟨⟨v,rfl⟩,(⟨s,hi,hl,hk⟩|⟨c,hi,hl,hk⟩)⟩
   · exact⟨none,_,by have:=run_endLoop (P:=Tryz.prog) hl (by rw[hrec];simp);rw[hrec] at this;exact this,hdone _ s _ ζ ((hI s N).putObj (s:=()) _ hi ω hl rfl) ((World.putObj_heap_other ω).trans hk)⟩
   · exact⟨some c,_,by have:=run_endLoop (P:=Tryz.prog) hl (by rw[hrec];simp);rw[hrec] at this;exact this,wpIn_wide.2 (hstop _ c _ ζ ((hX c).putObj (s:=()) _ hi ω hl rfl) ((World.putObj_heap_other ω).trans hk))⟩
theorem Gy {f:FuncId} {fn:Func} {c:Code} {args:Array Value} {w:World} {R:Ending->World->Prop} (hf:Tryz.prog.funcs[f]?=some fn) (hb:fn.body=some c)
  (h:c.wp Tryz.prog (bodyPostM Fence.wide 0 Tryz.prog fn R) { tmps:=args++Array.replicate (fn.ntmps-args.size) undef,defers:=[] } w):Calls Tryz.prog f args w R:=
 callsIn_wide.1 (callsIn_of_wp_marks (n:=0) hf hb trivial (wpIn_wide.2 h))
def Xi (r:Nat):Deferred:={ target:= .collected r,args:=#[] }
def Akf (d:Deferred):Prop:=∃fv cap f args,d.target= .fn fv cap/\∀w,(invoke d.target d.args).run Tryz.prog w= .ok (.enter f args) w/\CallsDIn Fence.wide 0 Tryz.prog f args .returning w λe u w'=>(∃v,e= .returned v)/\u= .returning/\w'=w
inductive Wb:List Nat->List Deferred->Prop
 |nil:Wb [] []
 |mark (r:Nat) {rs ds} (h:Wb rs ds):Wb (r::rs) (Xi r::ds)
 |idle {d rs ds} (hd:Akf d) (h:Wb rs ds):Wb rs (d::ds)
theorem Wb.of:∀rs,Wb rs (rs.map Xi)
 |[]=> .nil
 |r::rs=> .mark r (.of rs)
theorem pS {fn:Func} {tmps:Array Value} {R:Ending->World->Prop} {rs:List Nat} {ds:List Deferred} (hl:Wb rs ds):∀(W:World),rs.Nodup->(∀r∈rs,W.heap[r]?=some (.deferred (some [])))->
  (∀W',Ce (·∈rs) W W'->W'.heap.size=W.heap.size->∃v,(results fn tmps).run Tryz.prog W'= .ok v W'/\R (.returned v) W')->LeavesInM Fence.wide 0 Tryz.prog fn tmps R ds .returning W:=by
 induction hl with
 |nil=>
  intro W _ _ h
  obtain⟨v,h1,h2⟩:=h W (Ce.refl _ _) rfl
  exact⟨v,h1,h2⟩
 |mark r hl ih=>
  rename_i rs ds
  intro W hn hr h
  obtain⟨hnr,hns⟩:=List.nodup_cons.1 hn
  refine⟨by simp,.inl ⟨r,_,rfl,run_takeDeferred (hr r (by simp)),ih _ hns (λr' hr'=>?_) λW' hk hz=>?_⟩⟩
  exact(World.putObj_heap_other (λe=>hnr (by rw[<-e];exact hr'))).trans (hr r' (by simp[hr']))
  exact h W' ((Ce.putObj W r _ (by simp)).trans (hk.mono λb hb=>by simp[hb])) (by rw[hz,World.putObj_size])
 |idle hd hl ih=>
  intro W hn hr h
  obtain⟨fv,cap,f,args,ht,hi⟩:=hd
  refine⟨by simp,.inr ⟨λh=>by simp[Fence.wide] at h,fv,cap,f,args,ht,(hi W).1,λ_ _=>trivial,(hi W).2.mono λe u w' ⟨⟨v,e1⟩,e2,e3⟩=>?_⟩⟩
  subst e1 e2 e3
  exact ih _ hn hr h
theorem Jr {fn:Func} {a:Act} {W:World} {R:Ending->World->Prop} (rs:List Nat) (hd:Wb rs a.defers) (hn:rs.Nodup) (hr:∀r∈rs,W.heap[r]?=some (.deferred (some [])))
  (h:∀W',Ce (·∈rs) W W'->W'.heap.size=W.heap.size->∃v,(results fn a.tmps).run Tryz.prog W'= .ok v W'/\R (.returned v) W'):bodyPostM Fence.wide 0 Tryz.prog fn R .ret a W:=
 pS hd W hn hr h
theorem Ks {A B:World} {row:Option Nat} {b lo:Nat} {o:Obj} (h:A.heap[b]?=some o) (hg:A.grownBy B row) (hlo:b<lo) (hr:∀r,row=some r->lo<=r):B.heap[b]?=some o:=
 (hg.block b (Ξ h).1 (λe=>by have:=hr b e.symm;omega)).trans h
theorem Nv {A B wP:World} {Pv:Nat->Prop} {row:Option Nat} (h:Ce Pv wP A) (hg:A.grownBy B row) (hr:∀r,row=some r->wP.heap.size<=r):Ce Pv wP B:=
 ⟨hg.os.trans h.os,hg.tape.trans h.tape,hg.output.trans h.output,Nat.le_trans h.size hg.size,λb hb hn=>(hg.block b (Nat.lt_of_lt_of_le hb h.size) (λe=>by have:=hr b e.symm;omega)).trans (h.block b hb hn)⟩
theorem Ex (w:World) (B i:Nat) (C:Array Value) (t:TypeId) (fr:Nat×Nat) (u:Value) (h:w.heap[B]?=some (.cells C t fr)):(w.setCell ⟨B,i,none⟩ u).heap[B]?=some (.cells (C.setIfInBounds i u) t fr):=by
 obtain⟨hB,he⟩:=Ξ h
 simp[World.setCell,hB,Array.getElem_modify,he]
theorem Uy (a:Array Value) (n:Nat) (h:a.size=n):∃u:Nat->Value,(∀i,i<n->a[i]?=some (u i))/\a=((List.range n).map u).toArray:=by
 refine⟨λi=>a.getD i undef,λi hi=>by simp[h,hi],?_⟩
 apply Array.ext
 simp[h]
 intro i h1 h2
 simp[h1]
end Go.Proofs.YtkpjchfniejdoaaGreatDoor