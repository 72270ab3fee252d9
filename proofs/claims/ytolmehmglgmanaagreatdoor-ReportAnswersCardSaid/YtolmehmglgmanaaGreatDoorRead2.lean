/- Lines of answers are read one after another, and a panic is caught: the walks of read and ParseAnswers. -/
import Derived.Test.YtolmehmglgmanaaGreatDoorParse2
import Derived.Defers
import Derived.Recover
namespace Go.Proofs.YtolmehmglgmanaaGreatDoor
open Go.RowKit
variable {pr : Pr}

set_option maxRecDepth 100000 in
theorem catch_panickingA (p q : Nat) (x y : Value) (older : List PanicEntry) (w : World) (hc : w.cell? ⟨p, 0, none⟩ = some x) (hz : w.frozen? ⟨p, 0, none⟩ = false) (hc2 : w.cell? ⟨q, 0, none⟩ = some y) (hz2 : w.frozen? ⟨q, 0, none⟩ = false) (hpq : p ≠ q) :
    CallsD Tryz.prog 38 #[.pointer (some ⟨p, 0, none⟩), .pointer (some ⟨q, 0, none⟩)] (.panicking ({ v := .iface 41 (.int .i64 6), recovered := false } :: older)) w fun e u' w' =>
      e = .returned (.tuple #[]) ∧ u' = .panicking ({ v := .iface 41 (.int .i64 6), recovered := true } :: older) ∧ w' = (w.setCell ⟨p, 0, none⟩ (.slice none 0 0)).setCell ⟨q, 0, none⟩ (.int .i64 6) := by
  have hta : ∀ w, (Instr.typeAssert (.iface 41 (.int .i64 6)) 20 41 true).run Tryz.prog w = .ok (.tuple #[.int .i64 6, .bool true]) w := fun _ => by kernel_rfl
  have hcq : (w.setCell ⟨p, 0, none⟩ (.slice none 0 0)).cell? ⟨q, 0, none⟩ = some y := (World.cell?_setCell_other w ⟨p, 0, none⟩ ⟨q, 0, none⟩ _ (fun e => hpq (by have := congrArg Addr.block e; exact this))).trans hc2
  refine callsD_of_wpS Tryz.func38 rfl fun c₀ cs hu => ?_
  apply wpS_seq
  apply wpS_region
  simp [wpOpsS, go_sem, recoverD, hu, Tryz.ntmps38, Exit.thenS]
  refine wpS_of_wp ?_
  simp only [Array.replicate_succ, Array.replicate_zero, List.push_toArray, List.append_toArray, List.nil_append, List.cons_append, List.setIfInBounds_toArray, List.set_cons_succ, List.set_cons_zero]
  go_wp2_with fail
  simp [bodyPostS, results, Tryz.results38]
set_option maxRecDepth 100000 in
theorem catch_idleA (p q : Nat) (w : World) :
    CallsD Tryz.prog 38 #[.pointer (some ⟨p, 0, none⟩), .pointer (some ⟨q, 0, none⟩)] .returning w fun e u' w' => e = .returned (.tuple #[]) ∧ u' = .returning ∧ w' = w := by
  refine callsD_of_wpS Tryz.func38 rfl fun c₀ cs hu => ?_
  apply wpS_seq
  apply wpS_region
  simp [wpOpsS, go_sem, recoverD, hu, Tryz.ntmps38, Exit.thenS]
  refine wpS_of_wp ?_
  simp only [Array.replicate_succ, Array.replicate_zero, List.push_toArray, List.append_toArray, List.nil_append, List.cons_append, List.setIfInBounds_toArray, List.set_cons_succ, List.set_cons_zero]
  go_wp2_with fail
  cases c₀
  simp_all [bodyPostS, results, Tryz.results38]
/-- The findings of lines. -/
def parseAllA (pr : Pr) (l : List ByteArray) : Option (List An) := l.mapM fun s => parseA pr (splitS s)
def ReadPostA (w : World) (pr : Pr) (l : List ByteArray) (e : Ending) (w' : World) : Prop :=
  Below w.heap.size w w' ∧ match parseAllA pr l with
    | some fs => ∃ v, e = .returned (.tuple #[v, .int .i64 0]) ∧ Sees w' w.heap.size w'.heap.size 7 v fs.length (ans fs)
    | none => e = .returned (.tuple #[.slice none 0 0, .int .i64 6])
structure RLoopA (w : World) (pr : Pr) (l : List ByteArray) (k : Nat) (fs : List An) (v : Value) (wr : World) : Prop where
  le : k ≤ l.length
  all : parseAllA pr (l.take k) = some fs
  len : fs.length = k
  out : wr.heap[w.heap.size]? = some (.cells #[v] 27 (0, 0))
  err : wr.heap[w.heap.size + 1]? = some (.cells #[.int .i64 0] 41 (0, 0))
  own : wr.ownsRow (w.heap.size + 2) 38 7 v k (ans fs)
  below : Below w.heap.size w wr
theorem RLoopA.start (w : World) (l : List ByteArray) : RLoopA w pr l 0 [] (.slice none 0 0) ((w.alloc (.cells #[.slice none 0 0] 27)).alloc (.cells #[.int .i64 0] 41)) := by
  refine ⟨Nat.zero_le _, rfl, rfl, ?_, ?_, ⟨rfl, .inl ⟨rfl, rfl⟩⟩, ?_⟩
  · rw [Below.heap_alloc _ _ _ (by simp)]; exact heap_new _ _ _ rfl
  · exact heap_new _ _ _ (by simp)
  · exact ((Below.refl _ _).alloc (Nat.le_refl _) _).alloc (by simp) _
theorem fd_infoA : (Tryz.prog.info? 38).map (fun i => (i.zero, i.size, i.bytes)) = some (some (.agg #[.int .i64 0, .int .i64 0, .int .i64 0, .bool false, .int .i64 0, .int .i64 0, .int .i64 0]), 7, 56) := by kernel_rfl
def OneWA (pr : Pr) (s : ByteArray) : Value → World → Prop := fun v _ => ∃ f, parseA pr (splitS s) = some f ∧ v = .agg f.cells.toArray
def RowFA (pr : Pr) (lo : Nat) (s : ByteArray) : Value → World → Prop := fun v w => ∃ f b, lo ≤ b ∧ parseA pr (splitS s) = some f ∧ v = .slice (some ⟨b, 0, none⟩) 1 1 ∧ w.heap[b]? = some (.cells f.cells.toArray 38 (0, 0))
def SplitWA (lo : Nat) (s : ByteArray) : Value → World → Prop := fun v w => Sees w lo w.heap.size 1 v (splitS s).length (strs (splitS s))
theorem oneW_stableA (s : ByteArray) : Stable (OneWA pr s) := fun _ _ _ _ h => h
theorem rowF_stableA (lo : Nat) (s : ByteArray) : Stable (RowFA pr lo s) := fun _ _ _ hb ⟨f, b, hl, hp, hv, hc⟩ => ⟨f, b, hl, hp, hv, (hb.block b (Array.getElem?_eq_some_iff.1 hc).1).trans hc⟩
theorem splitW_stableA (lo : Nat) (s : ByteArray) : Stable (SplitWA lo s) := sees_stable lo 1 _ _
section
variable {P : Program} {ops : Array Oper} {n : Nat} {C : World → Prop} {R : Nat → Value → World → Prop} {a0 : Act} {Q : Exit → Act → World → Prop}
/-- A call of a function that a slot holds; it may panic. -/
theorem ok_callVA {i : Nat} {o : Oper} (f : FuncId) (lb : Array Value) (t : Nat) (x : Operand) (ts : Array TypeId) (r : Value → World → Prop) (ho : o.op = .call { callee := .value (.tmp t), args := #[x], argTypes := ts }) (hcall : ∀ args w, (callFunc f args).run P w = .ok (.enter f args) w)
    (ht : preOf ops n R a0 (.tmp t) = is (.func (.func f) #[] lb)) (hx : preOf ops n R a0 x = r) (hc : ∀ w v, C w → r v w → Calls P f (#[v] ++ lb) w fun e w' => (∃ v', e = .returned v' ∧ C w' ∧ Below w.heap.size w w' ∧ R i v' w') ∨ ∃ ch, e = .panicked ch ∧ ∀ a : Act, SameF ops n a0 a → Q (.panic ch) a w') : OpOk P ops n C R a0 Q i o := by
  intro a w hd hC hpre
  have h1 := hpre (.tmp t) (by rw [ho]; simp [Op.operands, Call.operands])
  have h2 := hpre x (by rw [ho]; simp [Op.operands, Call.operands])
  rw [ht] at h1
  rw [hx] at h2
  have he : a.eval (.tmp t) = .func (.func f) #[] lb := h1
  have hrun : (execOp a.eval o).run P w = .ok (.enter f (#[a.eval x] ++ lb)) w := by simp [execOp, ho, resolve, invoke, he, hcall, Deferred.ofValue]
  unfold Oper.wp
  rw [hrun]
  refine (hc w _ hC h2).mono fun e w' h => ?_
  rcases h with ⟨v, he, g1, g2, g3⟩ | ⟨ch, he, hq⟩
  · subst he; exact ⟨v, rfl, g1, g2, g3⟩
  · subst he; exact hq a hd
end
theorem parseAll_snocA (l : List ByteArray) (s : ByteArray) (fs : List An) (f : An) (h1 : parseAllA pr l = some fs) (h2 : parseA pr (splitS s) = some f) : parseAllA pr (l ++ [s]) = some (fs ++ [f]) := by
  unfold parseAllA at *
  induction l generalizing fs with
  | nil => simp at h1; subst h1; simp [h2]
  | cons x l ih =>
    simp only [List.mapM_cons, Option.bind_eq_bind, Option.bind_eq_some_iff, Option.pure_def, Option.some.injEq] at h1
    obtain ⟨y, hy, ys, hys, rfl⟩ := h1
    have := ih ys hys
    simp [List.mapM_cons, hy, this]
theorem parseAll_noneA {l : List ByteArray} {k : Nat} (hk : k < l.length) (h : parseA pr (splitS (l.getD k ByteArray.empty)) = none) : parseAllA pr l = none := by
  unfold parseAllA
  induction l generalizing k with
  | nil => simp at hk
  | cons x l ih =>
    cases k with
    | zero => simp only [List.getD_cons_zero] at h; simp [List.mapM_cons, h]
    | succ k =>
      have := ih (k := k) (by simpa using hk) (by simpa using h)
      simp only [List.mapM_cons, this]
      cases parseA pr (splitS x) <;> rfl
theorem ans_snocA (fs : List An) (f : An) : ans (fs ++ [f]) = ans fs ++ f.cells := by simp [ans]
section
variable {P : Program} {ops : Array Oper} {n : Nat} {R : Nat → Value → World → Prop} {a0 : Act} {Q : Exit → Act → World → Prop}
/-- An operation that makes one block. -/
theorem ok_newA {W : World} {i : Nat} {o : Oper} (h : ∀ (a : Act) (w : World), Below W.heap.size W w → (∀ x, x ∈ o.op.operands → preOf ops n R a0 x (a.eval x) w) → ∃ v obj, (execOp a.eval o).run P w = .ok (.value v) (w.alloc obj) ∧ R i v (w.alloc obj)) : OpOk P ops n (fun w' => Below W.heap.size W w') R a0 Q i o := by
  intro a w _ hC hpre
  obtain ⟨v, obj, hrun, hr⟩ := h a w hC hpre
  unfold Oper.wp
  rw [hrun]
  exact ⟨_, rfl, hC.alloc hC.size _, (Below.refl _ _).alloc (Nat.le_refl _) _, hr⟩
end
theorem RLoopA.step {w wr w2 w3 : World} {l : List ByteArray} {k : Nat} {fs : List An} {v v' : Value} {f : An} (h : RLoopA w pr l k fs v wr) (hk : k < l.length) (hC : Below wr.heap.size wr w2) (hf : parseA pr (splitS (l.getD k ByteArray.empty)) = some f)
    (ho : w3.ownsRow (w.heap.size + 2) 38 7 v' (k + 1) (ans fs ++ f.cells)) (hg : w2.grownBy w3 v.ownBlock) : RLoopA w pr l (k + 1) (fs ++ [f]) v' (w3.setCell ⟨w.heap.size, 0, none⟩ v') := by
  have hrow : ∀ g, v.ownBlock = some g → w.heap.size + 2 ≤ g := fun g e => (h.own.lt g e).1
  have hs1 := (Array.getElem?_eq_some_iff.1 h.err).1
  have hcs := hC.size
  have hkeep : ∀ b, b < wr.heap.size → v.ownBlock ≠ some b → w3.heap[b]? = wr.heap[b]? := fun b hb hn => (hg.block b (by omega) (fun e => hn e.symm)).trans (hC.block b hb)
  have ho1 := (hkeep w.heap.size (by omega) (fun e => by have := hrow _ e; omega)).trans h.out
  have he1 := (hkeep (w.heap.size + 1) hs1 (fun e => by have := hrow _ e; omega)).trans h.err
  refine ⟨by omega, ?_, by simp [h.len], ?_, ?_, ?_, ?_⟩
  · rw [List.take_succ_eq_append_getElem hk]
    refine parseAll_snocA _ _ _ _ h.all ?_
    simpa [hk] using hf
  · exact heap_setCell_same w3 w.heap.size 0 _ _ _ v' ho1
  · exact (Below.heap_setCell w3 ⟨w.heap.size, 0, none⟩ v' (w.heap.size + 1) (by simp)).trans he1
  · rw [ans_snocA]
    refine ho.kept (grown_set (World.grownBy.refl w3 _) 0 v') ?_
    cases he : v'.ownBlock with
    | none => exact .inl rfl
    | some g => exact .inr (fun e => by
        have := (ho.lt g he).1
        cases e
        omega)
  · exact ((h.below.trans (hC.mono h.below.size)).grown hg (by have := h.below.size; omega) (fun g e => by have := hrow g e; omega)).setCell (by simp) _
theorem load_cellA {W : World} {g : Nat} {t : TypeId} {u : Value} (hg : W.heap[g]? = some (.cells #[u] t (0, 0))) (ha : (isAgg t).run Tryz.prog W = .ok false W) : (loadVar t ⟨g, 0, none⟩).run Tryz.prog W = .ok u W := by
  have hc : W.cell? ⟨g, 0, none⟩ = some u := by rw [World.cell?, hg]; rfl
  simp [loadVar, ha, hc]
theorem read_resultsA {W : World} {p q : Nat} {u v : Value} {tmps : Array Value} (h4 : tmps.getD 4 undef = .pointer (some ⟨p, 0, none⟩)) (h5 : tmps.getD 5 undef = .pointer (some ⟨q, 0, none⟩)) (hp : W.heap[p]? = some (.cells #[u] 27 (0, 0))) (hq : W.heap[q]? = some (.cells #[v] 41 (0, 0))) :
    (results Tryz.f24 tmps).run Tryz.prog W = .ok (.tuple #[u, v]) W := by
  have l0 := load_cellA hp (by kernel_rfl)
  have l1 := load_cellA hq (by kernel_rfl)
  have t4 : tmps[4]?.getD undef = .pointer (some ⟨p, 0, none⟩) := by simpa using h4
  have t5 : tmps[5]?.getD undef = .pointer (some ⟨q, 0, none⟩) := by simpa using h5
  simp only [results, Tryz.results24]
  simp [asAddr, t4, t5, l0, l1]
theorem read_panicA {w x : World} {l : List ByteArray} {u v : Value} {a : Act} (hd : a.defers = [{ target := .fn (.func 38) #[.pointer (some ⟨w.heap.size, 0, none⟩), .pointer (some ⟨w.heap.size + 1, 0, none⟩)], args := #[] }])
    (h4 : a.tmps.getD 4 undef = .pointer (some ⟨w.heap.size, 0, none⟩)) (h5 : a.tmps.getD 5 undef = .pointer (some ⟨w.heap.size + 1, 0, none⟩)) (hp : x.heap[w.heap.size]? = some (.cells #[u] 27 (0, 0))) (hq : x.heap[w.heap.size + 1]? = some (.cells #[v] 41 (0, 0)))
    (hb : Below w.heap.size w x) (hn : parseAllA pr l = none) : bodyPostD Tryz.prog Tryz.f24 (ReadPostA w pr l) (.panic bad) a x := by
  show Leaves _ _ a.tmps _ a.defers _ _
  rw [hd]
  refine leaves_cons (f := 38) (args := #[.pointer (some ⟨w.heap.size, 0, none⟩), .pointer (some ⟨w.heap.size + 1, 0, none⟩)]) (by simp) (by simp [go_sem]) ?_
  refine (catch_panickingA w.heap.size (w.heap.size + 1) u v [] x ?_ ?_ ?_ ?_ (by omega)).mono ?_
  · rw [World.cell?, hp]; rfl
  · simp [World.frozen?, hp]
  · rw [World.cell?, hq]; rfl
  · simp [World.frozen?, hq]
  rintro e u' w'' ⟨rfl, rfl, rfl⟩
  show Leaves _ _ a.tmps _ [] .returning _
  have k1 := heap_setCell_same x w.heap.size 0 _ _ _ (.slice none 0 0) hp
  have k2 := (Below.heap_setCell (x.setCell ⟨w.heap.size, 0, none⟩ (.slice none 0 0)) ⟨w.heap.size + 1, 0, none⟩ (.int .i64 6) w.heap.size (by simp)).trans k1
  have k3 := heap_setCell_same (x.setCell ⟨w.heap.size, 0, none⟩ (.slice none 0 0)) (w.heap.size + 1) 0 _ _ _ (.int .i64 6) ((Below.heap_setCell x ⟨w.heap.size, 0, none⟩ (.slice none 0 0) (w.heap.size + 1) (by simp)).trans hq)
  refine ⟨_, read_resultsA h4 h5 k2 k3, ?_⟩
  unfold ReadPostA
  rw [hn]
  exact ⟨(hb.setCell (by simp) _).setCell (by simp) _, rfl⟩
set_option maxRecDepth 100000 in
set_option maxHeartbeats 2000000 in
theorem read_anyA (l : List ByteArray) (vl vn vh va : Value) (lo hi Bp : Nat) (w : World) (hl : Sees w lo hi 1 vl l.length (strs l)) (hhi : hi ≤ w.heap.size) (hm : l.length ≤ 1000000) (hs : ∀ s ∈ l, s.size ≤ 900000) (ht : Tab w) (hE : Errs w) (hML : MaxL w) 
    (hp : ProgAt w w.heap.size vn vh va pr) (ho : PrOk pr) (hv : validB pr = true) (hBp : w.heap[Bp]? = some (.cells #[vn, vh, va] 26 (0, 0))) :
    Calls Tryz.prog 24 #[vl, .func (.func 25) #[] #[.pointer (some ⟨Bp, 0, none⟩)]] w (ReadPostA w pr l) := by
  obtain ⟨A, c, rfl⟩ := hl.slice
  have hmf : ∀ (fn : Fn) (first cap : Array Value) (w : World), (Instr.makeFunc fn first cap).run Tryz.prog w = .ok (.func fn first cap) w := fun _ _ _ _ => rfl
  have HL := Lib.hid hl
  have HSZ := Lib.hid hs
  have hBlt : Bp < w.heap.size := (Array.getElem?_eq_some_iff.1 hBp).1
  have HV := Lib.hid hv
  have HBP := Lib.hid hBp
  clear hl hs hv hBp
  go_enter_defers Tryz.func24, Tryz.ntmps24
  go_wp2_with fail
  obtain ⟨i0, hi0, hz0, hz1, hz2⟩ := info_parts fd_infoA
  go_loopw [11] (fun i wr => ∃ (k : Nat) (fs : List An) (v : Value), i = .int .i64 k ∧ RLoopA w pr l k fs v wr) (fun i _ => l.length - (intOf i).toNat)
  case atStart => exact ⟨0, [], _, rfl, RLoopA.start w l⟩
  case round =>
    obtain ⟨k, fs, v, rfl, HR⟩ := hrel
    have hk := HR.le
    by_cases hlt : k < l.length
    · obtain ⟨ba, oa, ca', ea, _, hb2, hca⟩ := HL.out.pos (by omega)
      cases ea
      have g1 : wr.cell? ⟨ba, oa + k, none⟩ = some (.string (l.getD k ByteArray.empty)) := (HR.below.cell (p := ⟨ba, oa + k, none⟩) (show ba < _ by omega)).trans (hca k _ (strs_getD l k hlt))
      have hsz : (l.getD k ByteArray.empty).size ≤ 900000 := HSZ.out _ (by simp [hlt])
      clear hca
      generalize hx : l.getD k ByteArray.empty = s at *
      have HX := Lib.hid hx
      clear hx
      have htr := ht.up HR.below
      have hEr := hE.up HR.below
      have hMr := hML.up HR.below
      have hob := HR.out
      have hws : w.heap.size < wr.heap.size := (Array.getElem?_eq_some_iff.1 hob).1
      have CO : Hid (∀ wa, Below wr.heap.size wr wa → wa.cell? ⟨w.heap.size, 0, none⟩ = some v) := fun wa hC => by rw [World.cell?, hC.block w.heap.size hws, hob]; rfl
      have CS : Hid (∀ wa, Below wr.heap.size wr wa → Calls Tryz.prog 39 #[.string s, .string ⟨#[32]⟩] wa fun e w' => ∃ v, e = .returned v ∧ Below wr.heap.size wr w' ∧ Below wa.heap.size wa w' ∧ SplitWA wr.heap.size s v w') := fun wa hC =>
        (split_any s wa (by omega) (hMr.up hC)).mono fun e w' ⟨A, c, he, hs, hb⟩ => ⟨_, he, hC.trans (hb.mono hC.size), hb, hs.more hC.size (Nat.le_refl _)⟩
      have C1 : Hid (∀ wa v, Below wr.heap.size wr wa → SplitWA wr.heap.size s v wa → Calls Tryz.prog 25 (#[v] ++ #[.pointer (some ⟨Bp, 0, none⟩)]) wa fun e w' => (∃ v', e = .returned v' ∧ Below wr.heap.size wr w' ∧ Below wa.heap.size wa w' ∧ OneWA pr s v' w') ∨ (e = .panicked bad ∧ parseA pr (splitS s) = none ∧ Below wr.heap.size wr w')) := fun wa v hC hv => by
        have hcnt := Lib.countB_le spS (by decide) s.size s (Nat.le_refl _)
        have hbw := HR.below.trans (hC.mono HR.below.size)
        refine (onea_any pr (splitS s) v vn vh va Bp _ _ wa hv (Nat.le_refl _) (by rw [splitS_len]; omega) (fun x hx => Nat.le_trans (splitS_size s x hx) (by omega)) (htr.up hC) (hEr.up hC) (hp.up hbw) ho HV.out ((hbw.block Bp hBlt).trans HBP.out)).mono fun e w' ⟨hb, h⟩ => ?_
        have hB := hC.trans (hb.mono hC.size)
        cases hp : parseA pr (splitS s) with
        | some f => rw [hp] at h; exact .inl ⟨_, h, hB, hb, f, hp, rfl⟩
        | none => rw [hp] at h; exact .inr ⟨h, rfl, hB⟩
      clear hob
      go_wp2_with fail
      refine region_list 6 24 (fun w' => Below wr.heap.size wr w') [is (v), is (.func (.func 25) #[] #[.pointer (some ⟨Bp, 0, none⟩)]), is (.string s), SplitWA wr.heap.size s, OneWA pr s, RowFA pr wr.heap.size s] (by kernel_rfl) (by kernel_rfl) rfl (by decide) ?hst ?h0 ?hop ?htail
      case hst =>
        simp only [List.mem_cons, List.mem_nil_iff, or_false, forall_eq_or_imp, forall_eq]
        exact ⟨is_stable _, is_stable _, is_stable _, splitW_stableA _ _, oneW_stableA _, rowF_stableA _ _⟩
      case h0 => exact (Below.refl _ _).drew
      case hop =>
        refine ⟨?_, ?_, ?_, ?_, ?_, ?_, trivial⟩
        · exact ok_load 27 (.tmp 4) (.pointer (some ⟨w.heap.size, 0, none⟩)) (v) rfl (by kernel_rfl) (fun wa hC => run_load1 wa (by kernel_rfl) (CO.out wa hC)) rfl
        · exact ok_move (.tmp 1) (is (.func (.func 25) #[] #[.pointer (some ⟨Bp, 0, none⟩)])) rfl (by kernel_rfl) (fun _ _ _ h => h)
        · exact ok_move (.tmp 7) (is (.string s)) rfl (by kernel_rfl) (fun _ _ _ h => h)
        · exact ok_callF 39 [.tmp 17, .const (.string ⟨#[32]⟩)] _ [.string s, .string ⟨#[32]⟩] rfl (fun _ _ => by kernel_rfl) ⟨by kernel_rfl, by kernel_rfl, trivial⟩ (CS.out)
        · exact ok_callVA 25 #[.pointer (some ⟨Bp, 0, none⟩)] 16 (.tmp 18) _ (SplitWA wr.heap.size s) rfl (fun _ _ => by kernel_rfl) (by kernel_rfl) (by kernel_rfl) (fun wa v hC hv => (C1.out wa v hC hv).mono fun e x h => by
          rcases h with h | ⟨he, hp, hb⟩
          · exact .inl h
          · exact .inr ⟨_, he, fun a hs => read_panicA hs.1 (hs.2 4 (by kernel_rfl)) (hs.2 5 (by kernel_rfl)) ((hb.block _ (by omega)).trans HR.out) ((hb.block _ (Array.getElem?_eq_some_iff.1 HR.err).1).trans HR.err) (HR.below.trans (hb.mono HR.below.size)) (parseAll_noneA hlt (by rw [HX.out]; exact hp))⟩)
        · refine ok_newA fun a wa hC hpre => ?_
          have h1 : OneWA pr s (a.eval (.tmp 19)) wa := hpre (.tmp 19) (by simp [Op.operands])
          obtain ⟨f, hf, hv⟩ := h1
          have e1 : a.tmps[19]?.getD undef = .agg f.cells.toArray := by simpa [Act.eval] using hv
          obtain ⟨fk, fa, fr, ft, fu, fv, fx⟩ := f
          simp only [An.cells] at e1
          refine ⟨.slice (some ⟨wa.heap.size, 0, none⟩) 1 1, .cells #[.int .i64 fk, .int .i64 fa, .int .i64 fr, .bool ft, .int .i64 fu, .int .i64 fv, .int .i64 fx] 38, ?_, ⟨fk, fa, fr, ft, fu, fv, fx⟩, wa.heap.size, hC.size, hf, rfl, heap_alloc_new _ _⟩
          clear hv hf
          go_simp
      case htail =>
        intro τ w2 hC hRR
        have r0 : τ 0 = v := hRR 0 (by decide)
        have r5 : RowFA pr wr.heap.size s (τ 5) w2 := hRR 5 (by decide)
        obtain ⟨f, b, hlb, hpf, e5, hcb⟩ := r5
        simp only [putAll, List.getElem?_toArray, List.getElem?_cons_succ, List.getElem?_cons_zero, Option.bind_some, Act.put, List.setIfInBounds_toArray, List.set_cons_succ, List.set_cons_zero, List.drop_succ_cons, List.drop_zero, r0, e5]
        clear r0 e5 hRR
        have ho2 : w2.ownsRow (w.heap.size + 2) 38 7 v k (ans fs) := HR.own.kept (row := none) ⟨hC.os, hC.tape, hC.output, hC.size, fun k hk _ => hC.block k hk⟩ (by cases v.ownBlock with | none => exact .inl rfl | some k => exact .inr (by simp))
        have hsee : SeesD w2 (fun _ => True) 7 (.slice (some ⟨b, 0, none⟩) 1 1) 1 f.cells := ⟨rfl, .inr ⟨b, 0, 1, rfl, trivial, fun j u hu => by rw [Nat.zero_add, World.cell?, hcb]; simpa using hu⟩⟩
        have hws2 := HR.below.size
        have hs1 := (Array.getElem?_eq_some_iff.1 HR.err).1
        have hcz := hC.size
        refine wpList_append_sees rfl (.tmp 15) (.tmp 20) 27 rfl (w.heap.size + 2) 38 i0 _ 7 56 Tryz.underlying27 hi0 hz0 hz1 hz2 rfl (by decide) _ _ _ rfl ho2 _ _ _ _ rfl hsee ?_ ?_ ?_ ?_ ?_
        · intro u hu; simp only [An.cells, List.mem_cons, List.mem_nil_iff, or_false] at hu; rcases hu with rfl | rfl | rfl | rfl | rfl | rfl | rfl <;> rfl
        · unfold maxLen; omega
        · omega
        · omega
        intro v' w3 hown3 hg3 _
        have HST := Lib.hid (HR.step hlt hC (by rw [HX.out]; exact hpf) hown3 hg3)
        have hnb : v.ownBlock ≠ some w.heap.size := fun e => by have := (HR.own.lt _ e).1; omega
        have p3 : w3.heap[w.heap.size]? = some (.cells #[v] 27 (0, 0)) := (hg3.block _ (by omega) (fun e => hnb e.symm)).trans ((hC.block _ hws).trans HR.out)
        have c3 : w3.cell? ⟨w.heap.size, 0, none⟩ = some v := by rw [World.cell?, p3]; rfl
        have f3 : w3.frozen? ⟨w.heap.size, 0, none⟩ = false := by simp [World.frozen?, p3]
        obtain ⟨A3, cc3, rfl⟩ : ∃ A c, v' = .slice A (k + 1) c := (Sees.own hown3).slice
        clear hown3 hg3 hnb p3 ho2 hsee hcb
        go_wp2_with fail
        go_roundw
        case rel => exact ⟨k + 1, _, _, by go_num, HST.out⟩
        case measure => simp [intOf]; omega
    · obtain rfl : k = l.length := by omega
      have hout := HR.out
      have herr := HR.err
      have hall := HR.all
      rw [List.take_length] at hall
      obtain ⟨Av, cv, rfl⟩ := (Sees.own HR.own).slice
      have c4 : wr.cell? ⟨w.heap.size, 0, none⟩ = some (.slice Av l.length cv) := by rw [World.cell?, hout]; rfl
      have f4 : wr.frozen? ⟨w.heap.size, 0, none⟩ = false := by simp [World.frozen?, hout]
      have c5 : wr.cell? ⟨w.heap.size + 1, 0, none⟩ = some (.int .i64 0) := by rw [World.cell?, herr]; rfl
      have f5 : wr.frozen? ⟨w.heap.size + 1, 0, none⟩ = false := by simp [World.frozen?, herr]
      have k1 := heap_setCell_same wr w.heap.size 0 _ _ _ (.slice Av l.length cv) hout
      have k2 := (Below.heap_setCell (wr.setCell ⟨w.heap.size, 0, none⟩ (.slice Av l.length cv)) ⟨w.heap.size + 1, 0, none⟩ (.int .i64 0) w.heap.size (by simp)).trans k1
      have k3 := heap_setCell_same (wr.setCell ⟨w.heap.size, 0, none⟩ (.slice Av l.length cv)) (w.heap.size + 1) 0 _ _ _ (.int .i64 0) ((Below.heap_setCell wr ⟨w.heap.size, 0, none⟩ (.slice Av l.length cv) (w.heap.size + 1) (by simp)).trans herr)
      have K2 := Lib.hid k2
      have K3 := Lib.hid k3
      have HALL := Lib.hid hall
      clear k1 k2 k3 hall hout herr
      go_wp2_with fail
      refine leaves_cons (f := 38) (args := #[.pointer (some ⟨w.heap.size, 0, none⟩), .pointer (some ⟨w.heap.size + 1, 0, none⟩)]) (by simp) (by simp [go_sem]) ?_
      refine (catch_idleA w.heap.size (w.heap.size + 1) _).mono ?_
      rintro e u' w'' ⟨rfl, rfl, rfl⟩
      refine ⟨_, read_resultsA rfl rfl K2.out K3.out, ?_⟩
      have hown := HR.own
      have hlen := HR.len
      unfold ReadPostA
      rw [HALL.out]
      refine ⟨(HR.below.setCell (by simp) _).setCell (by simp) _, _, rfl, ?_⟩
      have h1 := Sees.own hown
      rw [hlen]
      have hz2 : ((wr.setCell ⟨w.heap.size, 0, none⟩ (.slice Av l.length cv)).setCell ⟨w.heap.size + 1, 0, none⟩ (.int .i64 0)).heap.size = wr.heap.size := by simp [World.setCell]
      rw [hz2]
      exact ((h1.set ⟨w.heap.size, 0, none⟩ _ (.inl (by simp))).set ⟨w.heap.size + 1, 0, none⟩ _ (.inl (by simp))).more (by omega) (Nat.le_refl _)
def ParsePost (w : World) (pr : Pr) (l : List ByteArray) (e : Ending) (w' : World) : Prop := if validB pr = true then ReadPostA w pr l e w' else e = .returned (.tuple #[.slice none 0 0, .int .i64 2]) ∧ Below w.heap.size w w'
set_option maxRecDepth 100000 in
theorem parse_anyA (l : List ByteArray) (vl vn vh va : Value) (lo hi : Nat) (w : World) (hl : Sees w lo hi 1 vl l.length (strs l)) (hhi : hi ≤ w.heap.size) (hm : l.length ≤ 1000000) (hs : ∀ s ∈ l, s.size ≤ 900000) (ht : Tab w) (hE : Errs w) (hML : MaxL w)
    (hp : ProgAt w w.heap.size vn vh va pr) (ho : PrOk pr) :
    Calls Tryz.prog 13 #[.agg #[vn, vh, va], vl] w (ParsePost w pr l) := by
  obtain ⟨A, c, rfl⟩ := hl.slice
  obtain ⟨A1, cn, rfl⟩ := hp.names.slice
  obtain ⟨Ah, ch, rfl⟩ := hp.homes.slice
  obtain ⟨csA, ha, hacts⟩ := hp.acts
  obtain ⟨Aa, ca, rfl⟩ := ha.slice
  clear ha hacts
  have hmf : ∀ (fn : Fn) (first cap : Array Value) (w : World), (Instr.makeFunc fn first cap).run Tryz.prog w = .ok (.func fn first cap) w := fun _ _ _ _ => rfl
  have HL := Lib.hid hl
  have HSZ := Lib.hid hs
  clear hl hs
  go_enter Tryz.func13, Tryz.ntmps13
  go_wp2_with fail
  refine (valid_ok pr _ _ _ _ (hp.up ((Below.refl _ _).alloc (Nat.le_refl _) _)) ho).mono ?_
  rintro e w1 ⟨rfl, hb1⟩
  have hB : Below w.heap.size w w1 := ((Below.refl _ _).alloc (Nat.le_refl _) _).trans (hb1.mono (by simp))
  have hBlk : w1.heap[w.heap.size]? = some (.cells #[.slice A1 pr.names.length cn, .slice Ah pr.homes.length ch, .slice Aa pr.acts.length ca] 26 (0, 0)) := (hb1.block _ (by simp)).trans (heap_alloc_new _ _)
  cases hv : validB pr with
  | false =>
    have HPP : Hid (ParsePost w pr l (.returned (.tuple #[.slice none 0 0, .int .i64 2])) w1) := by unfold Hid ParsePost; rw [hv, if_neg (by simp)]; exact ⟨rfl, hB⟩
    clear hv hBlk
    go_wp2_with fail
    go_ret2
    exact HPP.out
  | true =>
  have HV := Lib.hid hv
  have HBLK := Lib.hid hBlk
  clear hv hBlk
  go_wp2_with fail
  refine (read_anyA (pr := pr) l _ _ _ _ lo hi w.heap.size w1 (HL.out.keep (fun b o _ h => hB.cell (p := ⟨b, o, none⟩) (show b < _ by omega))) (Nat.le_trans hhi hB.size) hm HSZ.out (ht.up hB) (hE.up hB) (hML.up hB) (hp.up hB) ho HV.out HBLK.out).mono ?_
  intro e w2 h
  obtain ⟨v, n, rfl⟩ : ∃ v n, e = .returned (.tuple #[v, n]) := by
    obtain ⟨_, h⟩ := h
    split at h
    · obtain ⟨v, he, _⟩ := h; exact ⟨_, _, he⟩
    · exact ⟨_, _, h⟩
  have h' : ReadPostA w pr l (.returned (.tuple #[v, n])) w2 := by
    obtain ⟨hb, h⟩ := h
    refine ⟨hB.trans (hb.mono hB.size), ?_⟩
    split
    · rename_i fs hfs
      rw [hfs] at h
      obtain ⟨v', he, hs⟩ := h
      exact ⟨v', he, hs.more hB.size (Nat.le_refl _)⟩
    · rename_i hfs
      rw [hfs] at h
      exact h
  have HP : Hid (ParsePost w pr l (.returned (.tuple #[v, n])) w2) := by unfold Hid ParsePost; rw [HV.out, if_pos rfl]; exact h'
  clear h h'
  go_wp2_with fail
  go_ret2
  exact HP.out
end Go.Proofs.YtolmehmglgmanaaGreatDoor
