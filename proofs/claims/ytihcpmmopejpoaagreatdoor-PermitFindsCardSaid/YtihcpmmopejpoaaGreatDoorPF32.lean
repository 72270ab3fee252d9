/- Part 32 of the proof of PF.card_holds: no condition beyond the row's. -/
import Derived.Test.YtihcpmmopejpoaaGreatDoorPF31
import Derived.Test.YtihcpmmopejpoaaGreatDoorCards
import Derived.Test.YtihcpmmopejpoaaGreatDoorTie
import Derived.Stop.LaidErr
import Derived.SevenTiedAt
import Derived.Shelf.Vars
set_option maxRecDepth 100000
set_option maxHeartbeats 40000000
namespace Go.Proofs.YtihcpmmopejpoaaGreatDoor.PF
open Go.ChangeShapes Go.WideShapes Go.ChangeAt Go.RowKit Go.Deep
theorem AeL {f:FuncId} {args:List AV} {v:Value} (h:mP Qo Tryz.prog f args (.lit v)) (W:World) (hT:AfH W) (hE:AfB W) (vs:Array Value) (hn:vs.size=args.length) (hv:∀E:Ar,E.w=W->(∀b,b<W.heap.size->E.D b)->∀i,i<args.length->VR E (args.getD i .top) (vs.getD i undef)):Calls Tryz.prog f vs W λe w'=>e= .returned v/\Below W.heap.size W w':=by
 refine(h { π:=λ_=>0,cap:=λ_=>0,A:=λ_=>False,D:=λb=>b<W.heap.size,w:=W } vs ⟨W,hT,hE,λb hb=>⟨hb,rfl⟩⟩ (λb hb=>hb) hn λi hi=>hv _ rfl (λb hb=>hb) i hi).mono ?_
 rintro e w' ⟨u,D',rfl,hr,hb,_⟩
 exact⟨by rw[hr.lit_inv],hb⟩
theorem wrap {H:Type} {enc:TypeId×Value->H} {a:Assume} {C:Checked} {os:Os} {f:FuncId} {fn:Func} {s:ChangeSpec} {conds:List PathCond} {apart fresh handsOn again:Bool} {X:World->Array Value->Prop}
  (hX:∀(w w':World) (args:Array Value),w.heap=w'.heap->X w args->X w' args)
  (own:ownKnob C.prog.godebug=none) (started:os.Started) (noInit:C.prog.inits.idxOf? f=none) (hfn:C.prog.funcs[f]?=some fn)
  (witness:∃(w:World) (tape:Tape) (i:Input),w.os=os/\(w.forCall tape i).Shaped C.prog/\i.vars=[]/\Input.okWide C.prog (w.forCall tape i) .any w.heap.size f i/\
   ((s.pre enc C.prog fn conds apart (w.forCall tape i).memory i.args/\X (w.forCall tape i).memory i.args)/\sizedMet enc C.prog fn (OpenSpec.ofChange s) apart (w.forCall tape i).memory i.args)/\a.holds C.prog (lone (Frame.enter C.prog f i.args .normal) [] (w.forCall tape i)))
  (contract:∀(W:World) (base:Nat) (args:Array Value) (ds gs:List (DataW H)) (before:List MemPlace),
   (∀(j:Nat) t v,fn.params[j]?=some t->args[j]?=some v->Value.okWide C.prog W .any base t v)->DataW.Whole enc C.prog fn.params.toList s.vars apart W args.toList ds gs before->
   X W args->Calls C.prog f args W λe W'=>∃v,e= .returned v/\s.post enc C.prog fn apart fresh handsOn again W args v W'):
  ReturnsInHanded a C os f .any (λw args=>(s.pre enc C.prog fn conds apart w args/\X w args)/\sizedMet enc C.prog fn (OpenSpec.ofChange s) apart w args) (s.post enc C.prog fn apart fresh handsOn again):=by
 refine returnsInHanded_of_calls own started noInit witness ?_
 intro w tape i _ _ _ hok hpre hholds
 obtain⟨_,_,_,fn',hfn',_,_,_,_,hval⟩:=hok
 have e:fn'=fn:=Option.some.inj (hfn'.symm.trans hfn)
 subst e
 obtain⟨⟨⟨ds,gs,before,hw,hc⟩,hx⟩,hz⟩:=hpre
 have hw':=DataW.Whole.of_heap (w':=w.forCall tape i) (by rfl) hw
 refine(contract (w.forCall tape i) w.heap.size i.args ds gs before hval hw' (hX _ _ _ (by rfl) hx)).mono λe W' ⟨v,he,hp⟩=>?_
 subst he
 exact ChangeSpec.post_blind hp
theorem own:ownKnob Tryz.prog.godebug=none:=κ
theorem AaS:laidOutB Tryz.prog=true:=κ
theorem ApF:Tryz.prog.globalNamed "internal/strconv.uint64pow10"=some 2:=κ
theorem ApU:(Tryz.prog.globals[2]?).map (·.type)=some 254:=κ
theorem gES:Tryz.prog.globalNamed "strconv.ErrSyntax"=some 0:=κ
theorem tES:(Tryz.prog.globals[0]?).map (·.type)=some 86:=κ
theorem gER:Tryz.prog.globalNamed "strconv.ErrRange"=some 1:=κ
theorem tER:(Tryz.prog.globals[1]?).map (·.type)=some 86:=κ
theorem Apc: "*errors.errorString"= "*"++ "errors.errorString":=by decide
theorem AoT (u:TypeId) (h:Tryz.prog.typeName? 3 u=some "*errors.errorString"):u=196:=
 typeName_ptr_named (nm:= "errors.errorString") (by rw[<-Apc];kernel_rfl) κ δ u (by rw[<-Apc];exact h)
theorem Agp (os:Os) (args:Array Value):laidMetH Tryz.prog Rows.permitFindsRow.laid ((World.doorLaid Tryz.prog 400 os).forCall (λ_ _=>0) ⟨#[],args,[]⟩).memory:=
 laidMetH_of_parts3 (fuel:=8) (laidMet_of_run' 8 κ κ) κ κ
theorem Ak3 {W:World} (h:laidMetH Tryz.prog Rows.permitFindsRow.laid W):AfH W/\AfB W:=by
 rw[MakeChecks.laidMetH_plain _ _ _ κ] at h
 have h3:=h.tail.tail
 have h5:=h3.tail
 have h6:=h5.tail
 refine⟨?_,?_,?_⟩
 exact Lib.tabIs_of_head (k:= .u64) (zs:=Lib.pow10Tab) ApF ApU Tryz.underlying254 Tryz.underlying158 κ κ h3
 obtain⟨a0,s0,hv0,-,-,-⟩:=laid_sentinel h6 gES tES Tryz.underlying86 AoT Tryz.underlying196 Tryz.underlying198 rfl rfl Tryz.underlying9 κ κ
 exact⟨_,_,hv0⟩
 obtain⟨a0,s0,hv0,-,-,-⟩:=laid_sentinel h5 gER tER Tryz.underlying86 AoT Tryz.underlying196 Tryz.underlying198 rfl rfl Tryz.underlying9 κ κ
 exact⟨_,_,hv0⟩
theorem AmY (os:Os) (started:os.Started) (H:Type) (enc:TypeId×Value->H):
  ReturnsInHanded {} Tryz.checked os 4 .any (λw args=>(Rows.permitFindsSpec.pre enc Tryz.prog Tryz.f4 [] false w args/\laidMetH Tryz.prog Rows.permitFindsRow.laid w)/\sizedMet enc Tryz.prog Tryz.f4 (OpenSpec.ofChange Rows.permitFindsSpec) false w args)
   (Rows.permitFindsSpec.post enc Tryz.prog Tryz.f4 false true false false):=by
 refine wrap (C:=Tryz.checked) (X:=λw _=>laidMetH Tryz.prog Rows.permitFindsRow.laid w) (λ_ _ _ hh h=>h.of_heap hh) own started κ Tryz.func4
  (ChangeSpec.witness_shaped (enc:=enc) (C:=Tryz.checked) (os:=os) (X:=λw _=>laidMetH Tryz.prog Rows.permitFindsRow.laid w) false (World.doorLaid Tryz.prog 400 os) #[.slice none 0 0,.agg #[.slice none 0 0,.slice none 0 0,.slice none 0 0],.int .i64 0,.int .i64 0] 8 rfl (World.shaped_of_RefB κ κ) κ κ κ (Agp os _)) ?_
 intro W base args ds gs before hval0 hW hL
 have hval:∀(j:Nat) t v,Tryz.f4.params[j]?=some t->args[j]?=some v->Value.okWide Tryz.prog W .any base t v:=hval0
 have hW':=hW
 obtain⟨p,q,hA0,hV,rfl,hfz,hnd⟩:=hW
 have hA:DataW.TrodAll enc Tryz.prog W 0 (λ_=>true) true Tryz.f4.params.toList args.toList ds p:=hA0
 rw[Tryz.params4] at hA hval
 obtain⟨v0,vs0,d0,ds0,p0,q0,hargs,rfl,rfl,h0,r0⟩:=trodAll_cons hA
 obtain⟨v1,vs1,d1,ds1,p1,q1,rfl,rfl,rfl,h1,r1⟩:=trodAll_cons r0
 obtain⟨v2,vs2,d2,ds2,p2,q2,rfl,rfl,rfl,h2,r2⟩:=trodAll_cons r1
 obtain⟨v3,vs3,d3,ds3,p3,q3,rfl,rfl,rfl,h3,r3⟩:=trodAll_cons r2
 obtain⟨rfl,rfl,rfl⟩:=trodAll_nil r3
 obtain rfl:args=#[v0,v1,v2,v3]:=by cases args;simp_all
 obtain⟨rfl,rfl⟩:=trodVars_none hV
 have k0:=h0
 have k1:=h1
 have lt0:∀x∈p0,x.block<W.heap.size:=by obtain⟨m,hm⟩:=k0;exact DataW.trod_lt m _ _ _ hm
 have lt1:∀x∈p1,x.block<W.heap.size:=by obtain⟨m,hm⟩:=k1;exact DataW.trod_lt m _ _ _ hm
 obtain⟨l,hz_l,hl_l,hr0⟩:=Open.open_permits (hval 0 45 v0 rfl rfl) h0
 obtain⟨vn1,vh1,va1,pr,rfl,hp1,hsn1,hsa_pr⟩:=Open.open_prog2 (hval 1 31 v1 rfl rfl) h1
 obtain⟨st,rfl,rfl,rfl,g_st⟩:=open_int Tryz.underlying3 (hval 2 3 v2 rfl rfl) h2
 obtain⟨many,rfl,rfl,rfl,g_many⟩:=open_int Tryz.underlying3 (hval 3 3 v3 rfl rfl) h3
 obtain⟨hT,hEr⟩:=Ak3 hL
 clear hA0 hval0
 refine(AeL (bR l pr st many hz_l (λa ha=>(hsa_pr a ha).2)) W hT hEr #[v0,.agg #[vn1,vh1,va1],.int .i64 st,.int .i64 many] rfl (λE hw hD i hi=>?_)).mono λe W' ⟨he,bel⟩=>?_
 have hn:i<4:=hi
 match i,hn with
 |0,_=>exact hr0 E hw hD
 |1,_=>exact AkI hp1 hw hD
 |2,_=>exact .lit _ _
 |3,_=>exact .lit _ _
 subst he
 exact⟨_,rfl,_,_,_,[],_,[],hW',trodAll_mk1 (shut_bool Tryz.underlying4 _),(trodAll_cons_mk (Below.trod AaS κ (of_decide_eq_true κ) k0 bel lt0) (trodAll_cons_mk (Below.trod AaS κ (of_decide_eq_true κ) k1 bel lt1) (trodAll_cons_mk (shut_int Tryz.underlying3 g_st) (trodAll_cons_mk (shut_int Tryz.underlying3 g_many) trodAll_mk0)))),rfl,bel.frame _,λh=>by cases h⟩
theorem AdQ:Rows.PermitFindsSaid:=
 OpenClaim.holds_of_wide 4 Tryz.f4 rfl rfl rfl rfl rfl rfl rfl ⟨rfl,rfl,rfl,rfl,rfl⟩ rfl rfl rfl rfl rfl κ Tryz.func4 κ
  (of_decide_eq_true κ) (by unfold Func.isWrapper;first|(rw[if_pos (by decide+kernel)];kernel_rfl)|(rw[if_neg (by decide+kernel)];exact⟨rfl,rfl⟩))
  (λos started H enc _=>AmY os started H enc)
theorem card_holds:Rows.PermitFindsCardSaid:=
 Claim7.holds_tied_plain_at .later [] [.data,.data,.data,.sentinel,.sentinel] true _ true
  AdQ (λ_ h=>by cases h) κ (λ_ h=>by cases h) permitFinds_row_tie rfl ⟨rfl,rfl⟩ κ rfl
  (λf fn hf hfn=>by
   obtain rfl:f=4:=Option.some.inj ((show Tryz.prog.funcNamed "skylantern/skylanternlaw46.PermitFinds"=some 4 by kernel_rfl).symm.trans hf) |>.symm
   obtain rfl:fn=Tryz.f4:=(Option.some.inj (Tryz.func4.symm.trans hfn)).symm
   exact⟨κ,λj t ht=>by
    rw[Tryz.params4] at ht
    have hm:t∈[45,31,3,3]:=by simpa using Array.mem_of_getElem? ht
    have hall:([45,31,3,3].all λu=> !Tryz.prog.wantsStandIn u)=true:=κ
    exact(show Tryz.prog.wantsStandIn t=false by simpa using List.all_eq_true.1 hall t hm)⟩)
  κ
end Go.Proofs.YtihcpmmopejpoaaGreatDoor.PF