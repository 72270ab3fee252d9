/- Which findings can be written, and their lines: the walks of kinds, found, Findings. -/
import Derived.Test.YtolmehmglgmanaaGreatDoorTable
import Derived.BigGuardPart
namespace Go.Proofs.YtolmehmglgmanaaGreatDoor
open Go.RowKit

structure Fd where
  kind : Int
  ac : Int
  rec_ : Int
  time : Int
def Fd.cells (f : Fd) : List Value := [.int .i64 f.kind, .int .i64 f.ac, .int .i64 f.rec_, .int .i64 f.time]
def fds (l : List Fd) : List Value := l.flatMap Fd.cells
theorem fds_at : ∀ (l : List Fd) (k : Nat) (h : k < l.length) (j : Nat) (u : Value), (l[k].cells)[j]? = some u → (fds l)[k * 4 + j]? = some u
  | v :: l, 0, _, j, u, hu => by
    show (v.cells ++ fds l)[0 * 4 + j]? = some u
    rw [Nat.zero_mul, Nat.zero_add, List.getElem?_append_left]
    · exact hu
    · exact (List.getElem?_eq_some_iff.1 hu).1
  | v :: l, k + 1, h, j, u, hu => by
    have := fds_at l k (by simpa using h) j u hu
    show (v.cells ++ fds l)[(k + 1) * 4 + j]? = some u
    rw [List.getElem?_append_right (by simp [Fd.cells]; omega), ← this]
    congr 1
    simp [Fd.cells]
    omega
def foundB (f : Fd) : Bool := decide (1 ≤ f.kind) && decide (f.kind ≤ 5) && decide (0 ≤ f.ac) && decide (f.ac < 64) && decide (0 ≤ f.rec_)
set_option maxRecDepth 100000 in
set_option maxHeartbeats 1000000 in
theorem found_any (k a r t : Int) (w : World) :
    Calls Tryz.prog 29 #[.agg #[.int .i64 k, .int .i64 a, .int .i64 r, .int .i64 t]] w fun e w' => e = .returned (.bool (foundB ⟨k, a, r, t⟩)) ∧ Below w.heap.size w w' := by
  have hend : ∀ b : Bool, Hid (foundB ⟨k, a, r, t⟩ = b) → (Ending.returned (.bool b) = .returned (.bool (foundB ⟨k, a, r, t⟩)) ∧ Below w.heap.size w (w.alloc (.cells #[.int .i64 k, .int .i64 a, .int .i64 r, .int .i64 t] 75))) := fun b h =>
    ⟨ret_bool h.out.symm, (Below.refl _ _).alloc (Nat.le_refl _) _⟩
  have HE := Lib.hid hend
  clear hend
  by_cases h1 : 1 ≤ k
  case neg =>
    have HF : Hid (foundB ⟨k, a, r, t⟩ = false) := by unfold Hid; simp [foundB, h1]
    go_enter Tryz.func29, Tryz.ntmps29
    go_wp2_with fail
    go_ret
    exact HE.out false HF
  by_cases h2 : k ≤ 5
  case neg =>
    have HF : Hid (foundB ⟨k, a, r, t⟩ = false) := by unfold Hid; simp [foundB, h2]
    go_enter Tryz.func29, Tryz.ntmps29
    go_wp2_with fail
    go_ret
    exact HE.out false HF
  by_cases h3 : 0 ≤ a
  case neg =>
    have HF : Hid (foundB ⟨k, a, r, t⟩ = false) := by unfold Hid; simp [foundB, h3]
    go_enter Tryz.func29, Tryz.ntmps29
    go_wp2_with fail
    go_ret
    exact HE.out false HF
  by_cases h4 : a < 64
  case neg =>
    have HF : Hid (foundB ⟨k, a, r, t⟩ = false) := by unfold Hid; simp [foundB, h4]
    go_enter Tryz.func29, Tryz.ntmps29
    go_wp2_with fail
    go_ret
    exact HE.out false HF
  by_cases h5 : 0 ≤ r
  case neg =>
    have HF : Hid (foundB ⟨k, a, r, t⟩ = false) := by unfold Hid; simp [foundB, h5]
    go_enter Tryz.func29, Tryz.ntmps29
    go_wp2_with fail
    go_ret
    exact HE.out false HF
  have HF : Hid (foundB ⟨k, a, r, t⟩ = true) := by unfold Hid; simp [foundB, h1, h2, h3, h4, h5]
  go_enter Tryz.func29, Tryz.ntmps29
  go_wp2_with fail
  go_ret
  exact HE.out true HF
def kS1 : ByteArray := ⟨#[117, 110, 107, 110, 111, 119, 110]⟩
def kS2 : ByteArray := ⟨#[109, 105, 115, 115, 105, 110, 103]⟩
def kS3 : ByteArray := ⟨#[103, 97, 112]⟩
def kS4 : ByteArray := ⟨#[111, 102, 102]⟩
def kS5 : ByteArray := ⟨#[115, 116, 97, 116, 101]⟩
def kindsV : Value := .agg #[.string ByteArray.empty, .string kS1, .string kS2, .string kS3, .string kS4, .string kS5]
def kindS (k : Int) : ByteArray := if k = 1 then kS1 else if k = 2 then kS2 else if k = 3 then kS3 else if k = 4 then kS4 else if k = 5 then kS5 else ByteArray.empty
theorem kindS_size (k : Int) : (kindS k).size ≤ 7 := by
  unfold kindS
  repeat' split
  all_goals decide
set_option maxRecDepth 100000 in
theorem kinds_any (w : World) : Calls Tryz.prog 31 #[] w fun e w' => e = .returned kindsV ∧ Below w.heap.size w w' := by
  go_enter Tryz.func31, Tryz.ntmps31
  go_wp2_with fail
  refine bodyPost_ret (v := kindsV) ?_ rfl ⟨rfl, ?_⟩
  · simp [results, Tryz.results31, go_sem]
    rfl
  · exact (Below.refl _ _).alloc (Nat.le_refl _) _
theorem kind_index1 (w : World) : (Instr.index 100 kindsV (.int .i64 1)).run Tryz.prog w = .ok (.string (kindS 1)) w := by kernel_rfl
theorem kind_index2 (w : World) : (Instr.index 100 kindsV (.int .i64 2)).run Tryz.prog w = .ok (.string (kindS 2)) w := by kernel_rfl
theorem kind_index3 (w : World) : (Instr.index 100 kindsV (.int .i64 3)).run Tryz.prog w = .ok (.string (kindS 3)) w := by kernel_rfl
theorem kind_index4 (w : World) : (Instr.index 100 kindsV (.int .i64 4)).run Tryz.prog w = .ok (.string (kindS 4)) w := by kernel_rfl
theorem kind_index5 (w : World) : (Instr.index 100 kindsV (.int .i64 5)).run Tryz.prog w = .ok (.string (kindS 5)) w := by kernel_rfl
theorem kind_index (k : Int) (h1 : 1 ≤ k) (h5 : k ≤ 5) (w : World) : (Instr.index 100 kindsV (.int .i64 k)).run Tryz.prog w = .ok (.string (kindS k)) w := by
  have h : k = 1 ∨ k = 2 ∨ k = 3 ∨ k = 4 ∨ k = 5 := by omega
  rcases h with h | h | h | h | h
  · subst h; exact kind_index1 w
  · subst h; exact kind_index2 w
  · subst h; exact kind_index3 w
  · subst h; exact kind_index4 w
  · subst h; exact kind_index5 w
section
variable {P : Program} {ops : Array Oper} {n : Nat} {C : World → Prop} {R : Nat → Value → World → Prop} {a0 : Act} {Q : Exit → Act → World → Prop}
/-- A call of a function with two arguments, the second told by a word. -/
theorem ok_call2 {i : Nat} {o : Oper} (f : FuncId) (x y : Operand) (ts : Array TypeId) (r r' : Value → World → Prop) (ho : o.op = .call { callee := .value (.func f), args := #[x, y], argTypes := ts }) (hcall : ∀ args w, (callFunc f args).run P w = .ok (.enter f args) w)
    (hx : preOf ops n R a0 x = r) (hy : preOf ops n R a0 y = r') (hc : ∀ w u v, C w → r u w → r' v w → Calls P f #[u, v] w fun e w' => ∃ v', e = .returned v' ∧ C w' ∧ Below w.heap.size w w' ∧ R i v' w') : OpOk P ops n C R a0 Q i o := by
  intro a w _ hC hpre
  have h1 := hpre x (by rw [ho]; simp [Op.operands, Call.operands])
  have h2 := hpre y (by rw [ho]; simp [Op.operands, Call.operands])
  rw [hx] at h1
  rw [hy] at h2
  have he : a.eval (.func f) = .func (.func f) #[] #[] := rfl
  have hrun : (execOp a.eval o).run P w = .ok (.enter f #[a.eval x, a.eval y]) w := by simp [execOp, ho, resolve, invoke, he, hcall, Deferred.ofValue]
  unfold Oper.wp
  rw [hrun]
  exact (hc w _ _ hC h1 h2).mono fun e w' ⟨v, he, g1, g2, g3⟩ => by subst he; exact ⟨v, rfl, g1, g2, g3⟩
end
theorem RowW.ints {lo : Nat} {l : List Int} {v : Value} {w : World} (h : RowW lo 3 (ints l) v w) : Sees w lo w.heap.size 1 v l.length (ints l) := by
  have := h.sees
  rwa [ints_length] at this
/-- Words as a call among others. -/
theorem words_ok (W : World) (ht : Tab W) (s : ByteArray) (l : List Int) (hs : s.size ≤ 1000000) (hn : l.length ≤ 1000) (hf : ∀ n ∈ l, fits n) (w : World) (u v : Value) (hC : Below W.heap.size W w) (hu : is (.string s) u w) (hv : RowW W.heap.size 3 (ints l) v w) :
    Calls Tryz.prog 30 #[u, v] w fun e w' => ∃ v', e = .returned v' ∧ Below W.heap.size W w' ∧ Below w.heap.size w w' ∧ is (.string (wordsS s l)) v' w' := by
  cases hu
  exact (words_any s l v W.heap.size w.heap.size w hv.ints (Nat.le_refl _) (ht.up hC) hs hn hf).mono fun e w' ⟨he, hb⟩ => ⟨_, he, hC.trans (hb.mono hC.size), hb, rfl⟩
def atS : ByteArray := ⟨#[32, 97, 116]⟩
def recS : ByteArray := ⟨#[32, 114, 101, 99, 111, 114, 100]⟩
def lineF (f : Fd) : ByteArray := wordsS (kindS f.kind) [f.ac + 1] ++ wordsS atS [f.time] ++ wordsS recS [f.rec_]
def FindPost (w : World) (l : List Fd) (e : Ending) (w' : World) : Prop :=
  Below w.heap.size w w' ∧ if l.all foundB = true then ∃ v, e = .returned (.tuple #[v, .int .i64 0]) ∧ Sees w' w.heap.size w'.heap.size 1 v l.length (strs (l.map lineF))
    else e = .returned (.tuple #[.slice none 0 0, .int .i64 2])
theorem FindPost.no {w w' : World} {l : List Fd} {k : Nat} (hk : k < l.length) (h : foundB l[k] = false) (hb : Below w.heap.size w w') : FindPost w l (.returned (.tuple #[.slice none 0 0, .int .i64 2])) w' := by
  have : l.all foundB = false := by rw [List.all_eq_false]; exact ⟨_, List.getElem_mem hk, by simp [h]⟩
  unfold FindPost; rw [this]; exact ⟨hb, rfl⟩
def fitF (f : Fd) : Prop := fits f.kind ∧ fits f.ac ∧ fits f.rec_ ∧ fits f.time
set_option maxRecDepth 100000 in
set_option maxHeartbeats 2000000 in
theorem findings_any (l : List Fd) (vl : Value) (lo hi : Nat) (w : World) (hl : Sees w lo hi 4 vl l.length (fds l)) (hhi : hi ≤ w.heap.size) (ht : Tab w) (hlen : l.length ≤ 1000000) (hfit : ∀ f ∈ l, fitF f) :
    Calls Tryz.prog 15 #[vl] w (FindPost w l) := by
  obtain ⟨A, c, rfl⟩ := hl.slice
  obtain ⟨i0, hi0, hz0, hz1, hz2⟩ := info_parts str_info
  have HL := Lib.hid hl
  have HF := Lib.hid hfit
  clear hl hfit
  go_enter Tryz.func15, Tryz.ntmps15
  go_wp2_with fail
  go_loopw [4, 9] (fun v i wr => ∃ k : Nat, k ≤ l.length ∧ i = .int .i64 k ∧ wr.ownsRow w.heap.size 9 1 v k (strs ((l.take k).map lineF)) ∧ Below w.heap.size w wr ∧ (l.take k).all foundB = true) (fun _ i _ => l.length - (intOf i).toNat)
  case atStart => exact ⟨0, Nat.zero_le _, rfl, ⟨rfl, .inl ⟨rfl, rfl⟩⟩, Below.refl _ _, rfl⟩
  case round =>
    obtain ⟨k, hk, rfl, hown, hb, hj⟩ := hrel
    have HJ := Lib.hid hj
    have HO := Lib.hid hown
    clear hj hown
    by_cases hlt : k < l.length
    · obtain ⟨ba, oa, ca', ea, _, hb2, hca⟩ := HL.out.pos (by omega)
      cases ea
      have hat := fds_at l k hlt
      have hfk := HF.out _ (List.getElem_mem hlt)
      have hcell : ∀ j u, (l[k].cells)[j]? = some u → wr.cell? ⟨ba, oa + k * 4 + j, none⟩ = some u := fun j u hu => by
        have := hca _ u (hat j u hu)
        rw [← Nat.add_assoc] at this
        exact (hb.cell (p := ⟨ba, oa + k * 4 + j, none⟩) (show ba < _ by omega)).trans this
      have HNO := Lib.hid (fun (h : foundB l[k] = false) (w' : World) (hb' : Below w.heap.size w w') => FindPost.no (w := w) hlt h hb')
      have HS := Lib.hid (show (l.take (k + 1)).map lineF = (l.take k).map lineF ++ [lineF l[k]] by rw [List.take_succ_eq_append_getElem hlt, List.map_append]; rfl)
      have HA := Lib.hid (show foundB l[k] = true → (l.take (k + 1)).all foundB = true by intro h; rw [List.take_succ_eq_append_getElem hlt, List.all_append, HJ.out]; simp [h])
      clear hca hat
      generalize l[k] = f at *
      obtain ⟨fk, fa, fr, ft⟩ := f
      obtain ⟨⟨k1, k2⟩, ⟨a1, a2⟩, ⟨r1, r2⟩, ⟨t1, t2⟩⟩ := hfk
      simp only at k1 k2 a1 a2 r1 r2 t1 t2
      have g0 : wr.cell? ⟨ba, oa + k * 4, none⟩ = some (.int .i64 fk) := hcell 0 _ rfl
      have g1 : wr.cell? ⟨ba, oa + k * 4 + 1, none⟩ = some (.int .i64 fa) := hcell 1 _ rfl
      have g2 : wr.cell? ⟨ba, oa + k * 4 + 2, none⟩ = some (.int .i64 fr) := hcell 2 _ rfl
      have g3 : wr.cell? ⟨ba, oa + k * 4 + 3, none⟩ = some (.int .i64 ft) := hcell 3 _ rfl
      clear hcell
      go_wp2_with fail
      refine (found_any fk fa fr ft _).mono ?_
      rintro e w1 ⟨rfl, hb1⟩
      have hB1 : Below w.heap.size w w1 := hb.trans (((Below.refl _ _).alloc (Nat.le_refl _) _).trans (hb1.mono (by simp)) |>.mono hb.size)
      obtain ⟨B6, hB6⟩ : ∃ B6, B6 = wr.heap.size := ⟨_, rfl⟩
      have hc6 : w1.heap[B6]? = some (.cells #[.int .i64 fk, .int .i64 fa, .int .i64 fr, .int .i64 ft] 75 (0, 0)) := by rw [hB6]; exact (hb1.block _ (by simp)).trans (heap_alloc_new _ _)
      cases hfd : foundB ⟨fk, fa, fr, ft⟩ with
      | false =>
        have HP := Lib.hid (HNO.out hfd w1 hB1)
        clear hfd hc6 hB6
        go_wp2_with fail
        go_ret2
        exact HP.out
      | true =>
        have hq : 1 ≤ fk ∧ fk ≤ 5 ∧ 0 ≤ fa ∧ fa < 64 ∧ 0 ≤ fr := by simpa [foundB, and_assoc] using hfd
        obtain ⟨q1, q2, q3, q4, q5⟩ := hq
        have HA2 := Lib.hid (HA.out hfd)
        have hgr : wr.grownBy w1 none := ⟨hb1.os, hb1.tape, hb1.output, by have := hb1.size; simp at this; omega, fun i hi _ => (hb1.block i (by simp; omega)).trans (Below.heap_alloc _ _ _ hi)⟩
        have HO1 := Lib.hid (HO.out.kept hgr (by cases u4.ownBlock with | none => exact .inl rfl | some k => exact .inr (by simp)))
        have hgs := hgr.size
        have htr := ht.up hB1
        have CELL : Hid (∀ wa, Below w1.heap.size w1 wa → ∀ j u, [Value.int .i64 fk, .int .i64 fa, .int .i64 fr, .int .i64 ft][j]? = some u → wa.cell? ⟨wr.heap.size, j, none⟩ = some u) := fun wa hC j u hu => by
          rw [hB6] at hc6
          rw [hC.cell (p := ⟨wr.heap.size, j, none⟩) (Array.getElem?_eq_some_iff.1 hc6).1, World.cell?, hc6]
          simpa using hu
        have hks := kindS_size fk
        have z1 := wordsS_size (kindS fk) [fa + 1] (by simp [fits]; omega)
        have z2 := wordsS_size atS [ft] (by simp [fits]; omega)
        have z3 := wordsS_size recS [fr] (by simp [fits]; omega)
        have z4 : atS.size = 3 := rfl
        have z5 : recS.size = 7 := rfl
        simp only [List.length_singleton] at z1 z2 z3
        have hsum : Hid (IntKind.i64.wrap (fa + 1) = fa + 1) := IntWalk.i64_in _ (by omega)
        have KX : Hid (∀ w, (Instr.index 100 kindsV (.int .i64 fk)).run Tryz.prog w = .ok (.string (kindS fk)) w) := kind_index fk q1 q2
        have Z := Lib.hid (And.intro z1 (And.intro z2 (And.intro z3 (And.intro z4 z5))))
        clear hfd hc6 hB6 hgr z1 z2 z3 z4 z5
        go_wp2_with fail
        refine region_list 21 40 (fun w' => Below w1.heap.size w1 w') [is u4, is kindsV, is (.pointer (some ⟨wr.heap.size, 0, none⟩)), is (.int .i64 fk), is (.string (kindS fk)), is (.pointer (some ⟨wr.heap.size, 1, none⟩)), is (.int .i64 fa), is (.int .i64 (fa + 1)), RowW w1.heap.size 3 (ints [fa + 1]), is (.string (wordsS (kindS fk) [fa + 1])), is (.pointer (some ⟨wr.heap.size, 3, none⟩)), is (.int .i64 ft), RowW w1.heap.size 3 (ints [ft]), is (.string (wordsS atS [ft])), is (.string (wordsS (kindS fk) [fa + 1] ++ wordsS atS [ft])), is (.pointer (some ⟨wr.heap.size, 2, none⟩)), is (.int .i64 fr), RowW w1.heap.size 3 (ints [fr]), is (.string (wordsS recS [fr])), is (.string (wordsS (kindS fk) [fa + 1] ++ wordsS atS [ft] ++ wordsS recS [fr])), RowW w1.heap.size 9 [.string (wordsS (kindS fk) [fa + 1] ++ wordsS atS [ft] ++ wordsS recS [fr])]] (by kernel_rfl) (by kernel_rfl) rfl (by decide) ?hst ?h0 ?hop ?htail
        case hst =>
          simp only [List.mem_cons, List.mem_nil_iff, or_false, forall_eq_or_imp, forall_eq]
          exact ⟨is_stable _, is_stable _, is_stable _, is_stable _, is_stable _, is_stable _, is_stable _, is_stable _, rowW_stable _ _ _, is_stable _, is_stable _, is_stable _, rowW_stable _ _ _, is_stable _, is_stable _, is_stable _, is_stable _, rowW_stable _ _ _, is_stable _, is_stable _, rowW_stable _ _ _⟩
        case h0 => exact (Below.refl _ _).drew
        case hop =>
          refine ⟨?_, ?_, ?_, ?_, ?_, ?_, ?_, ?_, ?_, ?_, ?_, ?_, ?_, ?_, ?_, ?_, ?_, ?_, ?_, ?_, ?_, trivial⟩
          · exact ok_move (.tmp 4) (is u4) rfl (by kernel_rfl) (fun _ _ _ h => h)
          · exact ok_callF 31 [] _ [] rfl (fun _ _ => by kernel_rfl) trivial (fun wa hC => (kinds_any wa).mono fun e w' ⟨he, hb'⟩ => ⟨_, he, hC.trans (hb'.mono hC.size), hb', rfl⟩)
          · exact ok_field 75 (.tmp 6) 0 (.pointer (some ⟨wr.heap.size, 0, none⟩)) (.pointer (some ⟨wr.heap.size, 0, none⟩)) rfl (by kernel_rfl) (fun w => by kernel_rfl) rfl
          · exact ok_load 73 (.tmp 18) (.pointer (some ⟨wr.heap.size, 0, none⟩)) (.int .i64 fk) rfl (by kernel_rfl) (fun wa hC => run_load1 wa (Tryz.isAgg73 wa) (CELL.out wa hC 0 _ rfl)) rfl
          · exact ok_t2 17 19 kindsV (.int .i64 fk) (.string (kindS fk)) rfl (by kernel_rfl) (by kernel_rfl) (fun a wa _ e1 e2 => by have := KX.out wa; go_simp) rfl
          · exact ok_field 75 (.tmp 6) 1 (.pointer (some ⟨wr.heap.size, 0, none⟩)) (.pointer (some ⟨wr.heap.size, 1, none⟩)) rfl (by kernel_rfl) (fun w => by kernel_rfl) rfl
          · exact ok_load 3 (.tmp 21) (.pointer (some ⟨wr.heap.size, 1, none⟩)) (.int .i64 fa) rfl (by kernel_rfl) (fun wa hC => run_load1 wa (Tryz.isAgg3 wa) (CELL.out wa hC 1 _ rfl)) rfl
          · exact ok_tc 22 (.int .i64 1) (.int .i64 fa) (.int .i64 (fa + 1)) rfl (by kernel_rfl) (fun a wa _ h1 => by go_simp; exact hsum.out) rfl
          · exact ok_row1 3 23 (.int .i64 (fa + 1)) rfl (by kernel_rfl) (fun a wa h1 => by go_simp) rfl
          · exact ok_call2 30 (.tmp 20) (.tmp 24) _ (is (.string (kindS fk))) (RowW w1.heap.size 3 (ints [fa + 1])) rfl (fun _ _ => by kernel_rfl) (by kernel_rfl) (by kernel_rfl) (words_ok w1 htr _ _ (by omega) (by simp) (by simp [fits]; omega))
          · exact ok_field 75 (.tmp 6) 3 (.pointer (some ⟨wr.heap.size, 0, none⟩)) (.pointer (some ⟨wr.heap.size, 3, none⟩)) rfl (by kernel_rfl) (fun w => by kernel_rfl) rfl
          · exact ok_load 3 (.tmp 26) (.pointer (some ⟨wr.heap.size, 3, none⟩)) (.int .i64 ft) rfl (by kernel_rfl) (fun wa hC => run_load1 wa (Tryz.isAgg3 wa) (CELL.out wa hC 3 _ rfl)) rfl
          · exact ok_row1 3 27 (.int .i64 ft) rfl (by kernel_rfl) (fun a wa h1 => by go_simp) rfl
          · exact ok_call2 30 (.const (.string atS)) (.tmp 28) _ (is (.string atS)) (RowW w1.heap.size 3 (ints [ft])) rfl (fun _ _ => by kernel_rfl) (by kernel_rfl) (by kernel_rfl) (words_ok w1 htr _ _ (by decide) (by simp) (by simp [fits]; omega))
          · exact ok_t2 25 29 (.string (wordsS (kindS fk) [fa + 1])) (.string (wordsS atS [ft])) (.string (wordsS (kindS fk) [fa + 1] ++ wordsS atS [ft])) rfl (by kernel_rfl) (by kernel_rfl) (fun a wa _ e1 e2 => by have := Z.out; go_simp; omega) rfl
          · exact ok_field 75 (.tmp 6) 2 (.pointer (some ⟨wr.heap.size, 0, none⟩)) (.pointer (some ⟨wr.heap.size, 2, none⟩)) rfl (by kernel_rfl) (fun w => by kernel_rfl) rfl
          · exact ok_load 3 (.tmp 31) (.pointer (some ⟨wr.heap.size, 2, none⟩)) (.int .i64 fr) rfl (by kernel_rfl) (fun wa hC => run_load1 wa (Tryz.isAgg3 wa) (CELL.out wa hC 2 _ rfl)) rfl
          · exact ok_row1 3 32 (.int .i64 fr) rfl (by kernel_rfl) (fun a wa h1 => by go_simp) rfl
          · exact ok_call2 30 (.const (.string recS)) (.tmp 33) _ (is (.string recS)) (RowW w1.heap.size 3 (ints [fr])) rfl (fun _ _ => by kernel_rfl) (by kernel_rfl) (by kernel_rfl) (words_ok w1 htr _ _ (by decide) (by simp) (by simp [fits]; omega))
          · exact ok_t2 30 34 (.string (wordsS (kindS fk) [fa + 1] ++ wordsS atS [ft])) (.string (wordsS recS [fr])) (.string (wordsS (kindS fk) [fa + 1] ++ wordsS atS [ft] ++ wordsS recS [fr])) rfl (by kernel_rfl) (by kernel_rfl) (fun a wa _ e1 e2 => by have := Z.out; go_simp; omega) rfl
          · exact ok_row1 9 35 (.string (wordsS (kindS fk) [fa + 1] ++ wordsS atS [ft] ++ wordsS recS [fr])) rfl (by kernel_rfl) (fun a wa h1 => by go_simp) rfl
        case htail =>
          intro τ w2 hC hR
          have r0 : τ 0 = u4 := hR 0 (by decide)
          have r20 : RowW w1.heap.size 9 [.string (wordsS (kindS fk) [fa + 1] ++ wordsS atS [ft] ++ wordsS recS [fr])] (τ 20) w2 := hR 20 (by decide)
          obtain ⟨A2, c2, e20⟩ := r20.sees.slice
          rw [e20] at r20
          simp only [putAll, List.getElem?_toArray, List.getElem?_cons_succ, List.getElem?_cons_zero, Option.bind_some, Act.put, List.setIfInBounds_toArray, List.set_cons_succ, List.set_cons_zero, List.drop_succ_cons, List.drop_zero, r0, e20]
          have ho2 : w2.ownsRow w.heap.size 9 1 u4 k (strs ((l.take k).map lineF)) := HO1.out.kept (row := none) ⟨hC.os, hC.tape, hC.output, hC.size, fun k hk _ => hC.block k hk⟩ (by cases u4.ownBlock with | none => exact .inl rfl | some k => exact .inr (by simp))
          clear r0 e20 hR
          have hbw := hB1.size
          have hcz := hC.size
          refine wpList_append_sees rfl (.tmp 16) (.tmp 36) 22 rfl w.heap.size 9 i0 _ 1 16 Tryz.underlying22 hi0 hz0 hz1 hz2 rfl (by decide) _ _ _ rfl ho2 _ _ _ _ rfl r20.sees ?_ ?_ ?_ ?_ ?_
          · intro u hu; simp only [List.mem_singleton] at hu; subst hu; rfl
          · unfold maxLen; simp; omega
          · simp; omega
          · omega
          intro v' w3 hown3 hg3 _
          have hb3 : Below w.heap.size w w3 := (hB1.trans (hC.mono hbw)).grown hg3 (by omega) (fun g hg => (ho2.lt g hg).1)
          have H3 := Lib.hid hown3
          clear hown3 hg3 r20 ho2
          go_wp2_with fail
          go_roundw
          case rel => 
            refine ⟨k + 1, by omega, by go_num, ?_, hb3, HA2.out⟩
            rw [HS.out, ← strs_append]
            exact H3.out
          case measure => simp [intOf]; omega
    · go_wp2_with fail
      obtain rfl : k = l.length := by omega
      go_ret2
      refine ⟨hb, ?_⟩
      have h1 := HJ.out
      rw [List.take_length] at h1
      rw [if_pos h1]
      have := Sees.own HO.out
      rw [List.take_length] at this
      exact ⟨_, rfl, this⟩
end Go.Proofs.YtolmehmglgmanaaGreatDoor
