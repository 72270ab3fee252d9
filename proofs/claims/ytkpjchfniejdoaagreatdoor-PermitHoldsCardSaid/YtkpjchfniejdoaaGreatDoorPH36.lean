/- Part 36 of the proof of PH.card_holds: no condition beyond the row's. -/
import Derived.Test.YtkpjchfniejdoaaGreatDoorPH35
import Derived.Test.YtkpjchfniejdoaaGreatDoorCards
import Derived.Test.YtkpjchfniejdoaaGreatDoorTie
import Derived.Stop.LaidErr
import Derived.SevenTiedAt
import Derived.Shelf.Vars
import Derived.Lib.LaidU8
set_option maxRecDepth 100000
set_option maxHeartbeats 40000000
namespace Go.Proofs.YtkpjchfniejdoaaGreatDoor.PH
open Go.ChangeShapes Go.WideShapes Go.ChangeAt Go.RowKit Go.Deep
theorem Afg {f:FuncId} {args:List AV} {v:Value} (h:Vf Hw Tryz.prog f args (.lit v)) (W:World) (hT:Agg W) (hE:AfZ W) (hM:Akg W) (vs:Array Value) (hn:vs.size=args.length) (hv:∀E:As,E.w=W->(∀b,b<W.heap.size->E.D b)->∀i,i<args.length->VR E (args.getD i .top) (vs.getD i undef)):Calls Tryz.prog f vs W λe w'=>e= .returned v/\Below W.heap.size W w':=by
 refine(h { π:=λ_=>0,cap:=λ_=>0,A:=λ_=>False,D:=λb=>b<W.heap.size,w:=W } vs ⟨W,hT,hE,hM,λb hb=>⟨hb,rfl⟩⟩ (λb hb=>hb) hn λi hi=>hv _ rfl (λb hb=>hb) i hi).mono ?_
 rintro e w' ⟨u,D',rfl,hr,hb,_⟩
 exact⟨by rw[hr.lit_inv],hb⟩
theorem wrap {H:Type} {enc:TypeId×Value->H} {a:Assume} {C:Checked} {os:Os} {f:FuncId} {fn:Func} {s:ChangeSpec} {conds:List PathCond} {apart fresh handsOn again:Bool} {X:World->Array Value->Prop}
  (hX:∀(w w':World) (args:Array Value),w.heap=w'.heap->X w args->X w' args)
  (own:ownKnob C.prog.godebug=none) (started:os.Started) (noInit:C.prog.inits.idxOf? f=none) (hfn:C.prog.funcs[f]?=some fn)
  (witness:∃(w:World) (tape:Tape) (i:Input),w.os=os/\(w.forCall tape i).Shaped C.prog/\i.vars=[]/\Input.okWide C.prog (w.forCall tape i) .any w.heap.size f i/\
   ((s.pre enc C.prog fn conds apart (w.forCall tape i).memory i.args/\X (w.forCall tape i).memory i.args)/\sizedMet enc C.prog fn (OpenSpec.ofChange s) apart (w.forCall tape i).memory i.args)/\a.holds C.prog (lone (Frame.enter C.prog f i.args .normal) [] (w.forCall tape i)))
  (contract:∀(W:World) (base:Nat) (args:Array Value) (ds gs:List (DataW H)) (before:List MemPlace),
   (∀(j:Nat) t v,fn.params[j]?=some t->args[j]?=some v->Value.okWide C.prog W .any base t v)->DataW.Whole enc C.prog fn.params.toList s.vars apart W args.toList ds gs before->
   W.ShapedOpen C.prog->X W args->Calls C.prog f args W λe W'=>∃v,e= .returned v/\s.post enc C.prog fn apart fresh handsOn again W args v W'):
  ReturnsInHanded a C os f .any (λw args=>(s.pre enc C.prog fn conds apart w args/\X w args)/\sizedMet enc C.prog fn (OpenSpec.ofChange s) apart w args) (s.post enc C.prog fn apart fresh handsOn again):=by
 refine returnsInHanded_of_calls own started noInit witness ?_
 intro w tape i _ hsh _ hok hpre hholds
 obtain⟨_,_,_,fn',hfn',_,_,_,_,hval⟩:=hok
 have e:fn'=fn:=Option.some.inj (hfn'.symm.trans hfn)
 subst e
 obtain⟨⟨⟨ds,gs,before,hw,hc⟩,hx⟩,hz⟩:=hpre
 have hw':=DataW.Whole.of_heap (w':=w.forCall tape i) (by rfl) hw
 refine(contract (w.forCall tape i) w.heap.size i.args ds gs before hval hw' hsh (hX _ _ _ (by rfl) hx)).mono λe W' ⟨v,he,hp⟩=>?_
 subst he
 exact ChangeSpec.post_blind hp
theorem own:ownKnob Tryz.prog.godebug=none:=κ
theorem dT:laidOutB Tryz.prog=true:=κ
theorem AqV:Tryz.prog.globalNamed "internal/strconv.uint64pow10"=some 3:=κ
theorem Ark:(Tryz.prog.globals[3]?).map (·.type)=some 212:=κ
theorem gES:Tryz.prog.globalNamed "strconv.ErrSyntax"=some 0:=κ
theorem tES:(Tryz.prog.globals[0]?).map (·.type)=some 78:=κ
theorem gER:Tryz.prog.globalNamed "strconv.ErrRange"=some 1:=κ
theorem tER:(Tryz.prog.globals[1]?).map (·.type)=some 78:=κ
theorem Aqr: "*errors.errorString"= "*"++ "errors.errorString":=by decide
theorem Aqg (u:TypeId) (h:Tryz.prog.typeName? 3 u=some "*errors.errorString"):u=186:=
 typeName_ptr_named (nm:= "errors.errorString") (by rw[<-Aqr];kernel_rfl) κ δ u (by rw[<-Aqr];exact h)
noncomputable def start (os:Os):World:=
 let w0:=World.doorLaid Tryz.prog 400 os
 { w0 with heap:=w0.heap.modify 4 λ
  | .cells _ t frozen=> .cells (Lib.firstTab.map λz=>Value.int .u8 z).toArray t frozen
  |o=>o }
theorem AgJ (os:Os) (args:Array Value):laidMetH Tryz.prog Rows.permitHoldsRow.laid ((start os).forCall (λ_ _=>0) ⟨#[],args,[]⟩).memory:=
 laidMetH_of_parts3 (fuel:=8) (laidMet_of_run' 8 κ κ) κ κ
theorem Ali {W:World} (h:laidMetH Tryz.prog Rows.permitHoldsRow.laid W):Agg W/\AfZ W:=by
 rw[MakeChecks.laidMetH_plain _ _ _ κ] at h
 have h3:=h.tail.tail
 have h5:=h3.tail.tail
 have h6:=h5.tail
 refine⟨?_,?_,?_⟩
 exact Lib.tabIs_of_head (k:= .u64) (zs:=Lib.pow10Tab) AqV Ark Tryz.underlying212 Tryz.underlying151 κ κ h3
 obtain⟨a0,s0,hv0,-,-,-⟩:=laid_sentinel h6 gES tES Tryz.underlying78 Aqg Tryz.underlying186 Tryz.underlying188 rfl rfl Tryz.underlying9 κ κ
 exact⟨_,_,hv0⟩
 obtain⟨a0,s0,hv0,-,-,-⟩:=laid_sentinel h5 gER tER Tryz.underlying78 Aqg Tryz.underlying186 Tryz.underlying188 rfl rfl Tryz.underlying9 κ κ
 exact⟨_,_,hv0⟩
theorem Aig {W:World} (h:W.ShapedOpen Tryz.prog):Akg W:=
 cell_of_shapedOpen_int (zero:=#[.int .i64 0]) (t:=3) h (of_decide_eq_true κ) κ rfl κ κ Tryz.underlying3
theorem AnX (os:Os) (started:os.Started) (H:Type) (enc:TypeId×Value->H):
  ReturnsInHanded {} Tryz.checked os 3 .any (λw args=>(Rows.permitHoldsSpec.pre enc Tryz.prog Tryz.f3 [] false w args/\laidMetH Tryz.prog Rows.permitHoldsRow.laid w)/\sizedMet enc Tryz.prog Tryz.f3 (OpenSpec.ofChange Rows.permitHoldsSpec) false w args)
   (Rows.permitHoldsSpec.post enc Tryz.prog Tryz.f3 false true false false):=by
 refine wrap (C:=Tryz.checked) (X:=λw _=>laidMetH Tryz.prog Rows.permitHoldsRow.laid w) (λ_ _ _ hh h=>h.of_heap hh) own started κ Tryz.func3
  (ChangeSpec.witness_shaped (enc:=enc) (C:=Tryz.checked) (os:=os) (X:=λw _=>laidMetH Tryz.prog Rows.permitHoldsRow.laid w) false (start os) #[.agg #[.slice none 0 0,.slice none 0 0,.int .i64 0,.int .i64 0,.int .i64 0,.int .i64 0,.int .i64 0],.agg #[.slice none 0 0,.slice none 0 0,.slice none 0 0],.int .i64 0,.agg #[.int .i64 0,.int .i64 0,.int .i64 0,.int .i64 0,.int .i64 0,.int .i64 0,.int .i64 0,.int .i64 0,.int .i64 0,.int .i64 0,.int .i64 0,.bool false],.int .i64 0,.agg #[.int .i64 0,.int .i64 0,.int .i64 0]] 8 rfl (World.shaped_of_RefB κ κ) κ κ κ (AgJ os _)) ?_
 intro W base args ds gs before hval0 hW hsh hL
 have hval:∀(j:Nat) t v,Tryz.f3.params[j]?=some t->args[j]?=some v->Value.okWide Tryz.prog W .any base t v:=hval0
 have hW':=hW
 obtain⟨p,q,hA0,hV,rfl,hfz,hnd⟩:=hW
 have hA:DataW.TrodAll enc Tryz.prog W 0 (λ_=>true) true Tryz.f3.params.toList args.toList ds p:=hA0
 rw[Tryz.params3] at hA hval
 obtain⟨v0,vs0,d0,ds0,p0,q0,hargs,rfl,rfl,h0,r0⟩:=trodAll_cons hA
 obtain⟨v1,vs1,d1,ds1,p1,q1,rfl,rfl,rfl,h1,r1⟩:=trodAll_cons r0
 obtain⟨v2,vs2,d2,ds2,p2,q2,rfl,rfl,rfl,h2,r2⟩:=trodAll_cons r1
 obtain⟨v3,vs3,d3,ds3,p3,q3,rfl,rfl,rfl,h3,r3⟩:=trodAll_cons r2
 obtain⟨v4,vs4,d4,ds4,p4,q4,rfl,rfl,rfl,h4,r4⟩:=trodAll_cons r3
 obtain⟨v5,vs5,d5,ds5,p5,q5,rfl,rfl,rfl,h5,r5⟩:=trodAll_cons r4
 obtain⟨rfl,rfl,rfl⟩:=trodAll_nil r5
 obtain rfl:args=#[v0,v1,v2,v3,v4,v5]:=by cases args;simp_all
 obtain⟨rfl,rfl⟩:=trodVars_none hV
 have k0:=h0
 have k1:=h1
 have k3:=h3
 have k5:=h5
 have lt0:∀x∈p0,x.block<W.heap.size:=by obtain⟨m,hm⟩:=k0;exact DataW.trod_lt m _ _ _ hm
 have lt1:∀x∈p1,x.block<W.heap.size:=by obtain⟨m,hm⟩:=k1;exact DataW.trod_lt m _ _ _ hm
 have lt3:∀x∈p3,x.block<W.heap.size:=by obtain⟨m,hm⟩:=k3;exact DataW.trod_lt m _ _ _ hm
 have lt5:∀x∈p5,x.block<W.heap.size:=by obtain⟨m,hm⟩:=k5;exact DataW.trod_lt m _ _ _ hm
 obtain⟨x,hz_x,hr0⟩:=Open.open_permit (hval 0 27 v0 rfl rfl) h0
 obtain⟨vn1,vh1,va1,pr,rfl,hp1,hsn1,hsa_pr⟩:=Open.open_prog2 (hval 1 31 v1 rfl rfl) h1
 obtain⟨st,rfl,rfl,rfl,g_st⟩:=open_int Tryz.underlying3 (hval 2 3 v2 rfl rfl) h2
 obtain⟨y,rfl⟩:=Open.open_sheet (hval 3 35 v3 rfl rfl) h3
 obtain⟨t,rfl,rfl,rfl,g_t⟩:=open_int Tryz.underlying3 (hval 4 3 v4 rfl rfl) h4
 obtain⟨m0,m1,m2,rfl⟩:=Open.open_arr3 (hval 5 36 v5 rfl rfl) h5
 obtain⟨hT,hEr⟩:=Ali hL
 clear hA0 hval0
 refine(Afg (cQ x pr st y t m0 m1 m2 hz_x (λa ha=>(hsa_pr a ha).2)) W hT hEr (Aig hsh) #[v0,.agg #[vn1,vh1,va1],.int .i64 st,(kH y),.int .i64 t,.agg #[.int .i64 m0,.int .i64 m1,.int .i64 m2]] rfl (λE hw hD i hi=>?_)).mono λe W' ⟨he,bel⟩=>?_
 have hn:i<6:=hi
 match i,hn with
 |0,_=>exact hr0 E hw hD
 |1,_=>exact Alz hp1 hw hD
 |2,_=>exact .lit _ _
 |3,_=>exact .lit _ _
 |4,_=>exact .lit _ _
 |5,_=>exact .lit _ _
 subst he
 exact⟨_,rfl,_,_,_,[],_,[],hW',trodAll_mk1 (shut_bool Tryz.underlying4 _),(trodAll_cons_mk (Below.trod dT κ (of_decide_eq_true κ) k0 bel lt0) (trodAll_cons_mk (Below.trod dT κ (of_decide_eq_true κ) k1 bel lt1) (trodAll_cons_mk (shut_int Tryz.underlying3 g_st) (trodAll_cons_mk (Below.trod dT κ (of_decide_eq_true κ) k3 bel lt3) (trodAll_cons_mk (shut_int Tryz.underlying3 g_t) (trodAll_cons_mk (Below.trod dT κ (of_decide_eq_true κ) k5 bel lt5) trodAll_mk0)))))),rfl,bel.frame _,λh=>by cases h⟩
theorem Aer:joinedFacts Tryz.checked.prog 3 Tryz.f3 Rows.permitHoldsSpec Rows.permitHoldsRow=true:=κ
theorem AlH:Tryz.f3.isInstance Tryz.checked.prog Rows.permitHoldsRow.origin Rows.permitHoldsRow.targs:=of_decide_eq_true κ
theorem AlJ:Tryz.f3.isWrapper Tryz.checked.prog Rows.permitHoldsRow.wrapper Rows.permitHoldsRow.mainSum:=by unfold Func.isWrapper;first|(rw[if_pos (by decide+kernel)];kernel_rfl)|(rw[if_neg (by decide+kernel)];exact⟨rfl,rfl⟩)
theorem AlI:Tryz.checked.prog.funcNamed Rows.permitHoldsRow.func=some 3:=κ
theorem Ael:Rows.PermitHoldsSaid:=
 OpenClaim.holds_of_wide 3 Tryz.f3 rfl rfl rfl rfl rfl rfl rfl ⟨rfl,rfl,rfl,rfl,rfl⟩ rfl rfl rfl rfl rfl AlI Tryz.func3 Aer AlH AlJ
  (λos started H enc _=>AnX os started H enc)
theorem card_holds:Rows.PermitHoldsCardSaid:=
 Claim7.holds_tied_plain_at .later [] [.data,.data,.data,.data,.sentinel,.sentinel,.pinned] true _ true
  Ael (λ_ h=>by cases h) κ (λ_ h=>by cases h) permitHolds_row_tie rfl ⟨rfl,rfl⟩ κ rfl
  (λf fn hf hfn=>by
   obtain rfl:f=3:=Option.some.inj ((show Tryz.prog.funcNamed "skylantern/skylanternlaw46.PermitHolds"=some 3 by kernel_rfl).symm.trans hf) |>.symm
   obtain rfl:fn=Tryz.f3:=(Option.some.inj (Tryz.func3.symm.trans hfn)).symm
   exact⟨κ,λj t ht=>by
    rw[Tryz.params3] at ht
    have hm:t∈[27,31,3,35,3,36]:=by simpa using Array.mem_of_getElem? ht
    have hall:([27,31,3,35,3,36].all λu=> !Tryz.prog.wantsStandIn u)=true:=κ
    exact(show Tryz.prog.wantsStandIn t=false by simpa using List.all_eq_true.1 hall t hm)⟩)
  κ
end Go.Proofs.YtkpjchfniejdoaaGreatDoor.PH