/- ReportAnswers: for every program, every list of answers and every list of lines the law answers true; its row and its card. No condition beyond the row's own. -/
import Derived.Test.YtolmehmglgmanaaGreatDoorRows
import Derived.Test.YtolmehmglgmanaaGreatDoorCards
import Derived.Test.YtolmehmglgmanaaGreatDoorTie
import Derived.Test.YtolmehmglgmanaaGreatDoorLawAns
import Derived.Test.YtolmehmglgmanaaGreatDoorOpenProg
import Derived.ProofKit
import Derived.LaidMore
import Derived.OpenShut
import Derived.ShutString
import Derived.ChangeOld
import Derived.Lib.LaidTab
import Derived.Stop.Joined
import Derived.Stop.LaidErr
import Derived.SevenTiedAt
import Derived.HandedShaped
import Derived.SliceStrings
import Derived.Deep.Slices
import Derived.Deep.Fields
import Derived.Shelf.Vars
import Derived.Lib.LaidU8
namespace Go.Proofs.YtolmehmglgmanaaGreatDoor.Answ
open Go.ChangeShapes Go.WideShapes Go.ChangeAt Go.RowKit Go.Deep

/-- The row's wrap: what is listed, and the world's shape. -/
theorem wrap {H : Type} {enc : TypeId × Value → H} {a : Assume} {C : Checked} {os : Os} {f : FuncId} {fn : Func} {s : ChangeSpec} {conds : List PathCond} {apart fresh handsOn again : Bool} {X : World → Array Value → Prop}
    (hX : ∀ (w w' : World) (args : Array Value), w.heap = w'.heap → X w args → X w' args)
    (own : ownKnob C.prog.godebug = none) (started : os.Started) (noInit : C.prog.inits.idxOf? f = none) (hfn : C.prog.funcs[f]? = some fn)
    (witness : ∃ (w : World) (tape : Tape) (i : Input), w.os = os ∧ (w.forCall tape i).Shaped C.prog ∧ i.vars = [] ∧ Input.okWide C.prog (w.forCall tape i) .any w.heap.size f i ∧
      ((s.pre enc C.prog fn conds apart (w.forCall tape i).memory i.args ∧ X (w.forCall tape i).memory i.args) ∧ sizedMet enc C.prog fn (OpenSpec.ofChange s) apart (w.forCall tape i).memory i.args) ∧ a.holds C.prog (lone (Frame.enter C.prog f i.args .normal) [] (w.forCall tape i)))
    (contract : ∀ (W : World) (base : Nat) (args : Array Value) (ds gs : List (DataW H)) (before : List MemPlace),
      (∀ (j : Nat) t v, fn.params[j]? = some t → args[j]? = some v → Value.okWide C.prog W .any base t v) → DataW.Whole enc C.prog fn.params.toList s.vars apart W args.toList ds gs before →
      W.ShapedOpen C.prog → X W args → Calls C.prog f args W fun e W' => ∃ v, e = .returned v ∧ s.post enc C.prog fn apart fresh handsOn again W args v W') :
    ReturnsInHanded a C os f .any (fun w args => (s.pre enc C.prog fn conds apart w args ∧ X w args) ∧ sizedMet enc C.prog fn (OpenSpec.ofChange s) apart w args) (s.post enc C.prog fn apart fresh handsOn again) := by
  refine returnsInHanded_of_calls own started noInit witness ?_
  intro w tape i _ hsh _ hok hpre hholds
  obtain ⟨_, _, _, fn', hfn', _, _, _, _, hval⟩ := hok
  have e : fn' = fn := Option.some.inj (hfn'.symm.trans hfn)
  subst e
  obtain ⟨⟨⟨ds, gs, before, hw, hc⟩, hx⟩, hz⟩ := hpre
  have hw' := DataW.Whole.of_heap (w' := w.forCall tape i) (by rfl) hw
  refine (contract (w.forCall tape i) w.heap.size i.args ds gs before hval hw' hsh (hX _ _ _ (by rfl) hx)).mono fun e W' ⟨v, he, hp⟩ => ?_
  subst he
  exact ChangeSpec.post_blind hp
theorem own : ownKnob Tryz.prog.godebug = none := by kernel_rfl
theorem laidOut : laidOutB Tryz.prog = true := by kernel_rfl
theorem gPow : Tryz.prog.globalNamed "internal/strconv.uint64pow10" = some 2 := by kernel_rfl
theorem tPow : (Tryz.prog.globals[2]?).map (·.type) = some 161 := by kernel_rfl
theorem gES : Tryz.prog.globalNamed "strconv.ErrSyntax" = some 0 := by kernel_rfl
theorem tES : (Tryz.prog.globals[0]?).map (·.type) = some 115 := by kernel_rfl
theorem gER : Tryz.prog.globalNamed "strconv.ErrRange" = some 1 := by kernel_rfl
theorem tER : (Tryz.prog.globals[1]?).map (·.type) = some 115 := by kernel_rfl
theorem dPow : (Rows.laid_internal_strconv_uint64pow10 : DataW Unit) = Lib.tabData .u64 Lib.pow10Tab := by kernel_rfl
theorem star : "*errors.errorString" = "*" ++ "errors.errorString" := by decide
theorem rowE (u : TypeId) (h : Tryz.prog.typeName? 3 u = some "*errors.errorString") : u = 173 :=
  typeName_ptr_named (nm := "errors.errorString") (by rw [← star]; kernel_rfl) (by kernel_rfl) (by decide) u (by rw [← star]; exact h)
/-- The start that fits: what the door lays, and the pinned table. -/
noncomputable def start (os : Os) : World :=
  let w0 := World.doorLaid Tryz.prog 400 os
  { w0 with heap := w0.heap.modify 4 fun
      | .cells _ t frozen => .cells (Lib.firstTab.map fun z => Value.int .u8 z).toArray t frozen
      | o => o }
theorem door_met (os : Os) (args : Array Value) : laidMetH Tryz.prog Rows.reportAnswersRow.laid ((start os).forCall (fun _ _ => 0) ⟨#[], args, []⟩).memory :=
  laidMetH_of_parts3 (fuel := 8) (laidMet_of_run' 8 (by kernel_rfl) (by kernel_rfl)) (by kernel_rfl) (by kernel_rfl)
theorem of_laid {W : World} (h : laidMetH Tryz.prog Rows.reportAnswersRow.laid W) : Tab W ∧ Errs W := by
  rw [MakeChecks.laidMetH_plain _ _ _ (by kernel_rfl)] at h
  have h3 := h.tail.tail
  have h5 := h3.tail.tail
  have h6 := h5.tail
  refine ⟨?_, ?_, ?_⟩
  · exact Lib.tabIs_of_head (k := .u64) (zs := Lib.pow10Tab) gPow tPow Tryz.underlying161 Tryz.underlying140 (by kernel_rfl) (by kernel_rfl) h3
  · obtain ⟨a0, s0, hv0, -, -, -⟩ := laid_sentinel h6 gES tES Tryz.underlying115 rowE Tryz.underlying173 Tryz.underlying175 rfl rfl Tryz.underlying9 (by kernel_rfl) (by kernel_rfl)
    exact ⟨_, _, hv0⟩
  · obtain ⟨a0, s0, hv0, -, -, -⟩ := laid_sentinel h5 gER tER Tryz.underlying115 rowE Tryz.underlying173 Tryz.underlying175 rfl rfl Tryz.underlying9 (by kernel_rfl) (by kernel_rfl)
    exact ⟨_, _, hv0⟩
theorem of_shape {W : World} (h : W.ShapedOpen Tryz.prog) : MaxL W :=
  cell_of_shapedOpen_int (zero := #[.int .i64 0]) (t := 3) h (of_decide_eq_true (by kernel_rfl)) (by kernel_rfl) rfl (by kernel_rfl) (by kernel_rfl) Tryz.underlying3
theorem c_ans : Tryz.prog.cellsOf 38 = 7 := by kernel_rfl
theorem c_case : Tryz.prog.cellsOf 34 = 2 := by kernel_rfl
theorem c_rel : Tryz.prog.cellsOf 36 = 3 := by kernel_rfl
section
variable {H : Type} {enc : TypeId × Value → H} {W : World} {n : Nat} {y : DataW H × List MemPlace} {cs : List Value}
theorem open_an (hl : cs.length = 7) (h : DataW.trod enc Tryz.prog W 0 (fun _ => true) true n 38 cs = some y) : ∃ a : An, fitA a ∧ cs = a.cells := by
  match cs, hl with
  | [a, b, c, d, e, f, g], _ =>
    obtain ⟨m0, z0, h0⟩ := Open.open_field (ty := 34) (off := 0) Tryz.underlying38 h 0 (by rfl)
    obtain ⟨m1, z1, h1⟩ := Open.open_field (ty := 3) (off := 2) Tryz.underlying38 h 1 (by rfl)
    obtain ⟨m2, z2, h2⟩ := Open.open_field (ty := 4) (off := 3) Tryz.underlying38 h 2 (by rfl)
    obtain ⟨m3, z3, h3⟩ := Open.open_field (ty := 36) (off := 4) Tryz.underlying38 h 3 (by rfl)
    simp only [Open.c_int, Open.c_bool, c_case, c_rel] at h0 h1 h2 h3
    obtain ⟨m4, z4, h4⟩ := Open.open_field (ty := 3) (off := 0) Tryz.underlying34 h0 0 (by rfl)
    obtain ⟨m5, z5, h5⟩ := Open.open_field (ty := 3) (off := 1) Tryz.underlying34 h0 1 (by rfl)
    obtain ⟨m6, z6, h6⟩ := Open.open_field (ty := 3) (off := 0) Tryz.underlying36 h3 0 (by rfl)
    obtain ⟨m7, z7, h7⟩ := Open.open_field (ty := 3) (off := 1) Tryz.underlying36 h3 1 (by rfl)
    obtain ⟨m8, z8, h8⟩ := Open.open_field (ty := 3) (off := 2) Tryz.underlying36 h3 2 (by rfl)
    simp only [Open.c_int] at h4 h5 h6 h7 h8
    obtain ⟨k1, e1, f1⟩ := Open.open_int h1
    obtain ⟨bb, e2, _⟩ := DataW.trod_bool Tryz.underlying4 h2
    obtain ⟨k4, e4, f4⟩ := Open.open_int h4
    obtain ⟨k5, e5, f5⟩ := Open.open_int h5
    obtain ⟨k6, e6, f6⟩ := Open.open_int h6
    obtain ⟨k7, e7, f7⟩ := Open.open_int h7
    obtain ⟨k8, e8, f8⟩ := Open.open_int h8
    simp at e1 e2 e4 e5 e6 e7 e8
    exact ⟨⟨k4, k5, k1, bb, k6, k7, k8⟩, ⟨f4, f5, f1, f6, f7, f8⟩, by simp [An.cells, e1, e2, e4, e5, e6, e7, e8]⟩
theorem ans_of : ∀ (l : List (List Value)) (_ : ∀ cs ∈ l, ∃ a : An, fitA a ∧ cs = a.cells), ∃ L : List An, L.length = l.length ∧ l.flatten = ans L ∧ ∀ a ∈ L, fitA a
  | [], _ => ⟨[], rfl, rfl, by simp⟩
  | cs :: l, h => by
    obtain ⟨a, hf, ha⟩ := h cs (by simp)
    obtain ⟨L, h1, h2, h3⟩ := ans_of l (fun c hc => h c (by simp [hc]))
    refine ⟨a :: L, by simp [h1], by simp [ha, h2, ans], fun x hx => ?_⟩
    rcases List.mem_cons.1 hx with rfl | hx
    · exact hf
    · exact h3 x hx
theorem open_ans {a0 : Option Addr} {len0 cap0 : Nat} {d : DataW H} {p : List MemPlace} (h : DataW.Trod enc Tryz.prog W 0 (fun _ => true) true 27 (.slice a0 len0 cap0) d p) :
    ∃ l : List An, Sees W 0 W.heap.size 7 (.slice a0 len0 cap0) l.length (ans l) ∧ l.length ≤ maxLen ∧ ∀ a ∈ l, fitA a := by
  obtain ⟨fuel, hf⟩ := h
  obtain ⟨l, g1, g2, g3, g4⟩ := Open.open_rows Tryz.underlying27 c_ans (by decide) (show DataW.trod enc Tryz.prog W 0 (fun _ => true) true fuel 27 [.slice a0 len0 cap0] = some (d, p) by simpa [Value.cells] using hf)
  obtain ⟨L, h1, h2, h3⟩ := ans_of l (fun cs hc => by obtain ⟨hl, n, y, ht⟩ := g2 cs hc; exact open_an hl ht)
  have hL : L.length = len0 := by omega
  refine ⟨L, ?_, by omega, h3⟩
  rw [hL, ← h2]
  exact g3
end
set_option maxRecDepth 100000 in
theorem lifted (os : Os) (started : os.Started) (H : Type) (enc : TypeId × Value → H) :
    ReturnsInHanded {} Tryz.checked os 3 .any (fun w args => (Rows.reportAnswersSpec.pre enc Tryz.prog Tryz.f3 [] false w args ∧ laidMetH Tryz.prog Rows.reportAnswersRow.laid w) ∧ sizedMet enc Tryz.prog Tryz.f3 (OpenSpec.ofChange Rows.reportAnswersSpec) false w args)
      (Rows.reportAnswersSpec.post enc Tryz.prog Tryz.f3 false true false false) := by
  refine wrap (C := Tryz.checked) (X := fun w _ => laidMetH Tryz.prog Rows.reportAnswersRow.laid w) (fun _ _ _ hh h => h.of_heap hh) own started (by kernel_rfl) Tryz.func3
    (ChangeSpec.witness_shaped (enc := enc) (C := Tryz.checked) (os := os) (X := fun w _ => laidMetH Tryz.prog Rows.reportAnswersRow.laid w) false (start os) #[.agg #[.slice none 0 0, .slice none 0 0, .slice none 0 0], .slice none 0 0, .slice none 0 0] 8 rfl (World.shaped_of_RefB (by kernel_rfl) (by kernel_rfl)) (by kernel_rfl) (by kernel_rfl) (by kernel_rfl) (door_met os _)) ?_
  intro W base args ds gs before hval0 hW hsh hL
  have hval : ∀ (j : Nat) t v, Tryz.f3.params[j]? = some t → args[j]? = some v → Value.okWide Tryz.prog W .any base t v := hval0
  have hW' := hW
  obtain ⟨p, q, hA0, hV, rfl, hfz, hnd⟩ := hW
  have hA : DataW.TrodAll enc Tryz.prog W 0 (fun _ => true) true Tryz.f3.params.toList args.toList ds p := hA0
  rw [Tryz.params3] at hA hval
  obtain ⟨v0, vs0, d0, ds0, p0, q0, hargs, rfl, rfl, h0, r0⟩ := trodAll_cons hA
  obtain ⟨v1, vs1, d1, ds1, p1, q1, rfl, rfl, rfl, h1, r1⟩ := trodAll_cons r0
  obtain ⟨v2, vs2, d2, ds2, p2, q2, rfl, rfl, rfl, h2, r2⟩ := trodAll_cons r1
  obtain ⟨rfl, rfl, rfl⟩ := trodAll_nil r2
  obtain rfl : args = #[v0, v1, v2] := by cases args; simp_all
  obtain ⟨rfl, rfl⟩ := trodVars_none hV
  obtain ⟨a1, len1, cap1, rfl⟩ := okWide_slice Tryz.underlying27 (hval 1 27 v1 rfl rfl)
  obtain ⟨a2, len2, cap2, rfl⟩ := okWide_slice Tryz.underlying22 (hval 2 22 v2 rfl rfl)
  have k0 := h0
  have k1 := h1
  have k2 := h2
  have lt0 : ∀ x ∈ p0, x.block < W.heap.size := by obtain ⟨m, hm⟩ := k0; exact DataW.trod_lt m _ _ _ hm
  have lt1 : ∀ x ∈ p1, x.block < W.heap.size := by obtain ⟨m, hm⟩ := k1; exact DataW.trod_lt m _ _ _ hm
  have lt2 : ∀ x ∈ p2, x.block < W.heap.size := by obtain ⟨m, hm⟩ := k2; exact DataW.trod_lt m _ _ _ hm
  obtain ⟨vn, vh, va, pr, rfl, hp, hsn, hsa⟩ := Open.open_prog (hval 0 26 v0 rfl rfl) h0
  obtain ⟨l, hl, hlen, hfit⟩ := open_ans h1
  obtain ⟨lines, hll, hl2, hlen2, hsz⟩ := (show ∃ l : List ByteArray, l.length = len2 ∧ Sees W 0 W.heap.size 1 (.slice a2 len2 cap2) l.length (YtolmehmglgmanaaGreatDoor.strs l) ∧ len2 ≤ maxLen ∧ ∀ s ∈ l, s.size ≤ maxLen by
    obtain ⟨fuel, hf⟩ := h2
    exact Open.open_names (by simpa [Value.cells] using hf))
  obtain ⟨hT, hEr⟩ := of_laid hL
  clear hA0 hval0
  refine (ranswers_any pr l lines vn vh va _ _ W hp hsn hsa hl hl2 hfit hlen (by omega) hsz hT hEr (of_shape hsh)).mono fun e W' ⟨he, bel⟩ => ?_
  subst he
  exact ⟨_, rfl, _, _, _, [], _, [], hW', trodAll_mk1 (shut_bool Tryz.underlying4 _), (trodAll_cons_mk (Below.trod laidOut (by kernel_rfl) (of_decide_eq_true (by kernel_rfl)) k0 bel lt0) (trodAll_cons_mk (Below.trod laidOut (by kernel_rfl) (of_decide_eq_true (by kernel_rfl)) k1 bel lt1) (trodAll_cons_mk (Below.trod laidOut (by kernel_rfl) (of_decide_eq_true (by kernel_rfl)) k2 bel lt2) trodAll_mk0))), rfl, bel.frame _, fun h => by cases h⟩
theorem row_holds : Rows.ReportAnswersSaid :=
  OpenClaim.holds_of_wide 3 Tryz.f3 rfl rfl rfl rfl rfl rfl rfl ⟨rfl, rfl, rfl, rfl, rfl⟩ rfl rfl rfl rfl rfl (by kernel_rfl) Tryz.func3 (by kernel_rfl)
    (of_decide_eq_true (by kernel_rfl)) (by unfold Func.isWrapper; first | (rw [if_pos (by decide +kernel)]; kernel_rfl) | (rw [if_neg (by decide +kernel)]; exact ⟨rfl, rfl⟩))
    (fun os started H enc _ => lifted os started H enc)
theorem answers_holds : Rows.ReportAnswersCardSaid :=
  Claim7.holds_tied_plain_at .later [] [.data, .data, .data, .data, .sentinel, .sentinel, .pinned] true _ true
    row_holds (fun _ h => by cases h) (by kernel_rfl) (fun _ h => by cases h) reportAnswers_row_tie rfl ⟨rfl, rfl⟩ (by kernel_rfl) rfl
    (fun f fn hf hfn => by
      obtain rfl : f = 3 := Option.some.inj ((show Tryz.prog.funcNamed "skylantern/skylanternlaw52.ReportAnswers" = some 3 by kernel_rfl).symm.trans hf) |>.symm
      obtain rfl : fn = Tryz.f3 := (Option.some.inj (Tryz.func3.symm.trans hfn)).symm
      exact ⟨by kernel_rfl, fun j t ht => by
        rw [Tryz.params3] at ht
        have hm : t ∈ [26, 27, 22] := by simpa using Array.mem_of_getElem? ht
        have hall : ([26, 27, 22].all fun u => !Tryz.prog.wantsStandIn u) = true := by kernel_rfl
        exact (show Tryz.prog.wantsStandIn t = false by simpa using List.all_eq_true.1 hall t hm)⟩)
    (by kernel_rfl)
end Go.Proofs.YtolmehmglgmanaaGreatDoor.Answ
