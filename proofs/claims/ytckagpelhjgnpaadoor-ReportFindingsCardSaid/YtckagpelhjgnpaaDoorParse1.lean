/- One line of findings is read: the walk of ParseFindings' function. -/
import Derived.Test.YtckagpelhjgnpaaDoorSplit
import Derived.Test.YtckagpelhjgnpaaDoorLaw52
import Derived.Test.YtckagpelhjgnpaaDoorExam
import Derived.Laws.CopyOwn
namespace Go.Proofs.YtckagpelhjgnpaaDoor
open Go.RowKit

section
variable {P : Program} {ops : Array Oper} {n : Nat} {C : World → Prop} {R : Nat → Value → World → Prop} {a0 : Act} {Q : Exit → Act → World → Prop}
/-- A call that may panic. -/
theorem ok_callP {i : Nat} {o : Oper} (f : FuncId) (xs : List Operand) (ts : Array TypeId) (us : List Value) (ho : o.op = .call { callee := .value (.func f), args := xs.toArray, argTypes := ts }) (hcall : ∀ args w, (callFunc f args).run P w = .ok (.enter f args) w)
    (hargs : PreArgs ops n R a0 xs us) (hc : ∀ w, C w → Calls P f us.toArray w fun e w' => (∃ v, e = .returned v ∧ C w' ∧ Below w.heap.size w w' ∧ R i v w') ∨ ∃ ch, e = .panicked ch ∧ ∀ a : Act, SameF ops n a0 a → Q (.panic ch) a w') : OpOk P ops n C R a0 Q i o := by
  intro a w hd hC hpre
  have hm := map_eval (a := a) (w := w) xs us hargs (fun x hx => hpre x (by rw [ho]; simp [Op.operands, Call.operands, hx]))
  have he : a.eval (.func f) = .func (.func f) #[] #[] := rfl
  have hrun : (execOp a.eval o).run P w = .ok (.enter f us.toArray) w := by simp [execOp, ho, resolve, invoke, he, hm, hcall, Deferred.ofValue]
  unfold Oper.wp
  rw [hrun]
  refine (hc w hC).mono fun e w' h => ?_
  rcases h with ⟨v, he, g1, g2, g3⟩ | ⟨ch, he, hq⟩
  · subst he; exact ⟨v, rfl, g1, g2, g3⟩
  · subst he; exact hq a hd
/-- An element's address, the index a constant. -/
theorem ok_indexC {i : Nat} {o : Oper} (T e : TypeId) (t : Nat) (b off len c size : Nat) (j : Int) (k : Nat) (ho : o.op = .indexAddr T (.tmp t) (.const (.int .i64 j))) (hx : preOf ops n R a0 (.tmp t) = is (.slice (some ⟨b, off, none⟩) len c))
    (hT : P.underlying T = some (.slice e)) (hsz : ∀ w, (sizeOf e).run P w = .ok size w) (hj : j = (k : Int)) (hk : k < len) (hr : R i = is (.pointer (some ⟨b, off + k * size, none⟩))) : OpOk P ops n C R a0 Q i o :=
  ok_tc t (.int .i64 j) _ (.pointer (some ⟨b, off + k * size, none⟩)) (by rw [ho]; rfl) hx (fun a w _ h1 => by
    have e1 : a.eval (.tmp t) = .slice (some ⟨b, off, none⟩) len c := by simpa [Act.eval] using h1
    have e2 : a.eval (.const (.int .i64 j)) = .int .i64 j := rfl
    have hj2 : (0 : Int) ≤ j ∧ j < (len : Int) := by omega
    have hj3 : j.toNat = k := by omega
    simp [execOp, ho, e1, e2, Instr.indexAt, asIntOf, run_underlying hT, hj2, hj3, hsz, add_none]) hr
/-- A new variable. -/
def AllocW (lo : Nat) (e : TypeId) (cs : Array Value) (v : Value) (w : World) : Prop := ∃ B, lo ≤ B ∧ v = .pointer (some ⟨B, 0, none⟩) ∧ w.heap[B]? = some (.cells cs e (0, 0))
theorem allocW_stable (lo : Nat) (e : TypeId) (cs : Array Value) : Stable (AllocW lo e cs) := fun _ _ _ hb ⟨B, hl, hv, hc⟩ => ⟨B, hl, hv, (hb.block B (Array.getElem?_eq_some_iff.1 hc).1).trans hc⟩
theorem ok_alloc {W : World} {i : Nat} {o : Oper} (e : TypeId) (cs : Array Value) (h : ∀ (a : Act) (w : World), (execOp a.eval o).run P w = .ok (.value (.pointer (some ⟨w.heap.size, 0, none⟩))) (w.alloc (.cells cs e))) (hr : R i = AllocW W.heap.size e cs) : OpOk P ops n (fun w' => Below W.heap.size W w') R a0 Q i o := by
  intro a w _ hC _
  unfold Oper.wp
  rw [h a w]
  refine ⟨_, rfl, hC.alloc hC.size _, (Below.refl _ _).alloc (Nat.le_refl _) _, ?_⟩
  rw [hr]
  exact ⟨_, hC.size, rfl, heap_alloc_new _ _⟩
end
theorem str1_size (w : World) : (sizeOf 9).run Tryd.prog w = .ok 1 w := by kernel_rfl
def atW : ByteArray := ⟨#[97, 116]⟩
def recW : ByteArray := ⟨#[114, 101, 99, 111, 114, 100]⟩
def wd (ws : List ByteArray) (j : Nat) : ByteArray := ws.getD j ByteArray.empty
def kindsL : List ByteArray := [ByteArray.empty, kS1, kS2, kS3, kS4, kS5]
def headW (ws : List ByteArray) : Bool := decide (ws.length = 6) && decide (wd ws 0 ≠ ByteArray.empty) && decide (wd ws 2 = atW) && decide (wd ws 4 = recW)
def mkF (ws : List ByteArray) (a t r : Int) : Fd := ⟨idxS kindsL (wd ws 0), IntKind.i64.wrap (a - 1), r, t⟩
/-- The finding that words say. -/
def parseW (ws : List ByteArray) : Option Fd :=
  if headW ws = true then
    match numS (wd ws 1), numS (wd ws 3), numS (wd ws 5) with
    | some a, some t, some r => if foundB (mkF ws a t r) = true then some (mkF ws a t r) else none
    | _, _, _ => none
  else none
def OnePost (w : World) (ws : List ByteArray) (e : Ending) (w' : World) : Prop := Below w.heap.size w w' ∧ match parseW ws with | some f => e = .returned (.agg f.cells.toArray) | none => e = .panicked bad
theorem OnePost.no {w w' : World} {ws : List ByteArray} (h : parseW ws = none) (hb : Below w.heap.size w w') : OnePost w ws (.panicked bad) w' := by unfold OnePost; rw [h]; exact ⟨hb, rfl⟩
theorem OnePost.yes {w w' : World} {ws : List ByteArray} {f : Fd} (h : parseW ws = some f) (hb : Below w.heap.size w w') : OnePost w ws (.returned (.agg f.cells.toArray)) w' := by unfold OnePost; rw [h]; exact ⟨hb, rfl⟩
theorem parse_head {ws : List ByteArray} (h : headW ws = false) : parseW ws = none := by unfold parseW; rw [h]; rfl
theorem parse_num {ws : List ByteArray} (h : numS (wd ws 1) = none ∨ numS (wd ws 3) = none ∨ numS (wd ws 5) = none) : parseW ws = none := by
  unfold parseW
  split
  · rcases h with h | h | h
    · rw [h]
    · rw [h]; cases numS (wd ws 1) <;> rfl
    · rw [h]; cases numS (wd ws 1) <;> cases numS (wd ws 3) <;> rfl
  · rfl
theorem parse_all {ws : List ByteArray} {a t r : Int} (hh : headW ws = true) (h1 : numS (wd ws 1) = some a) (h3 : numS (wd ws 3) = some t) (h5 : numS (wd ws 5) = some r) : parseW ws = if foundB (mkF ws a t r) = true then some (mkF ws a t r) else none := by
  unfold parseW; rw [if_pos hh, h1, h3, h5]
def NumW (s : ByteArray) : Value → World → Prop := fun v _ => ∃ n, numS s = some n ∧ v = .int .i64 n
def SubW (s : ByteArray) : Value → World → Prop := fun v _ => ∃ n, numS s = some n ∧ v = .int .i64 (IntKind.i64.wrap (n - 1))
def FdW (ws : List ByteArray) : Value → World → Prop := fun v _ => ∃ a t r, numS (wd ws 1) = some a ∧ numS (wd ws 3) = some t ∧ numS (wd ws 5) = some r ∧ v = .agg (mkF ws a t r).cells.toArray
theorem numW_stable (s : ByteArray) : Stable (NumW s) := fun _ _ _ _ h => h
theorem subW_stable (s : ByteArray) : Stable (SubW s) := fun _ _ _ _ h => h
theorem fdW_stable (ws : List ByteArray) : Stable (FdW ws) := fun _ _ _ _ h => h
theorem idx_fits (s : ByteArray) : -1 ≤ idxS kindsL s ∧ idxS kindsL s ≤ 5 := by
  unfold idxS
  split
  · rename_i i hi
    have := (List.findIdx?_eq_some_iff_getElem.1 hi).1
    simp [kindsL] at this
    omega
  · omega
set_option maxRecDepth 100000 in
set_option maxHeartbeats 1000000 in
/-- The head is wrong. -/
theorem one_head (ws : List ByteArray) (vl : Value) (lo hi : Nat) (w : World) (hl : Sees w lo hi 1 vl ws.length (strs ws)) (hhi : hi ≤ w.heap.size) (hm : ws.length ≤ 1000000) (hh : headW ws = false) :
    Calls Tryd.prog 23 #[vl] w (OnePost w ws) := by
  obtain ⟨A, c, rfl⟩ := hl.slice
  have HP : Hid (OnePost w ws (.panicked bad) (w.alloc (.cells #[.int .i64 0, .int .i64 0, .int .i64 0, .int .i64 0] 37))) := OnePost.no (parse_head hh) ((Below.refl _ _).alloc (Nat.le_refl _) _)
  by_cases h6 : ws.length = 6
  · obtain ⟨b, o, c', e, _, hb2, hca⟩ := hl.pos (by omega)
    cases e
    have g0 : w.cell? ⟨b, o, none⟩ = some (.string (wd ws 0)) := hca 0 _ (strs_getD ws 0 (by omega))
    have g2 : w.cell? ⟨b, o + 2, none⟩ = some (.string (wd ws 2)) := hca 2 _ (strs_getD ws 2 (by omega))
    have g4 : w.cell? ⟨b, o + 4, none⟩ = some (.string (wd ws 4)) := hca 4 _ (strs_getD ws 4 (by omega))
    have hblt : b < w.heap.size := by omega
    have HC : Hid (wd ws 0 = ByteArray.empty ∨ (wd ws 0 ≠ ByteArray.empty ∧ wd ws 2 ≠ atW) ∨ (wd ws 0 ≠ ByteArray.empty ∧ wd ws 2 = atW ∧ wd ws 4 ≠ recW)) := by
      unfold Hid
      by_cases q0 : wd ws 0 = ByteArray.empty
      · exact .inl q0
      by_cases q2 : wd ws 2 = atW
      · by_cases q4 : wd ws 4 = recW
        · exfalso; unfold headW at hh; simp [h6, q0, q2, q4] at hh
        · exact .inr (.inr ⟨q0, q2, q4⟩)
      · exact .inr (.inl ⟨q0, q2⟩)
    generalize wd ws 0 = s0 at *
    generalize wd ws 2 = s2 at *
    generalize wd ws 4 = s4 at *
    rw [h6]
    clear hl hca h6 hh
    have hE : ∀ s : ByteArray, s ≠ ByteArray.empty → s.toList.isEmpty = false := fun s hne => by
      cases hl : s.toList with
      | nil => exact absurd (toList_inj (y := ByteArray.empty) (by rw [hl, ByteArray.toList_eq]; rfl)) hne
      | cons _ _ => rfl
    rcases HC.out with q | ⟨q0, q2⟩ | ⟨q0, q2, q4⟩
    · subst q
      clear hE
      go_enter Tryd.func23, Tryd.ntmps23
      go_wp2_with fail
      refine (must_false _).mono ?_
      rintro e w3 ⟨rfl, rfl⟩
      exact ⟨rfl, HP.out⟩
    · have e0 := hE s0 q0
      have e2 : (s2.toList == [97, 116]) = false := beq_eq_false_iff_ne.2 fun e => q2 (toList_inj (e.trans (by rw [ByteArray.toList_eq]; rfl)))
      clear hE q0 q2
      go_enter Tryd.func23, Tryd.ntmps23
      go_wp2_with fail
      refine (must_false _).mono ?_
      rintro e w3 ⟨rfl, rfl⟩
      exact ⟨rfl, HP.out⟩
    · have e0 := hE s0 q0
      have e4 : (s4.toList == [114, 101, 99, 111, 114, 100]) = false := beq_eq_false_iff_ne.2 fun e => q4 (toList_inj (e.trans (by rw [ByteArray.toList_eq]; rfl)))
      subst q2
      unfold atW at g2
      clear hE q0 q4
      go_enter Tryd.func23, Tryd.ntmps23
      go_wp2_with fail
      refine (must_false _).mono ?_
      rintro e w3 ⟨rfl, rfl⟩
      exact ⟨rfl, HP.out⟩
  · have hne : ((ws.length : Int) == 6) = false := by rw [beq_eq_false_iff_ne]; omega
    clear hl h6 hh
    go_enter Tryd.func23, Tryd.ntmps23
    go_wp2_with fail
    refine (must_false _).mono ?_
    rintro e w3 ⟨rfl, rfl⟩
    exact ⟨rfl, HP.out⟩
theorem number_ok (W : World) (ht : Tab W) (hE : Errs W) (s : ByteArray) (hs : s.size ≤ 1000000) {Pq : World → Prop} (hq : numS s = none → ∀ w', Below W.heap.size W w' → Pq w') : ∀ wa, Below W.heap.size W wa → Calls Tryd.prog 26 #[.string s] wa fun e w' => (∃ v, e = .returned v ∧ Below W.heap.size W w' ∧ Below wa.heap.size wa w' ∧ NumW s v w') ∨ ∃ ch, e = .panicked ch ∧ ch = bad ∧ Pq w' := fun wa hC => by
  refine (number_any s wa hs (ht.up hC) (hE.up hC)).mono fun e w' ⟨hb, h⟩ => ?_
  have hB := hC.trans (hb.mono hC.size)
  cases hn : numS s with
  | some n => rw [hn] at h; exact .inl ⟨_, h, hB, hb, n, hn, rfl⟩
  | none => rw [hn] at h; exact .inr ⟨_, h, rfl, hq hn w' hB⟩
set_option maxRecDepth 100000 in
set_option maxHeartbeats 2000000 in
theorem one_any (ws : List ByteArray) (vl : Value) (lo hi : Nat) (w : World) (hl : Sees w lo hi 1 vl ws.length (strs ws)) (hhi : hi ≤ w.heap.size) (hm : ws.length ≤ 1000000) (hs : ∀ s ∈ ws, s.size ≤ 1000000) (ht : Tab w) (hE : Errs w) :
    Calls Tryd.prog 23 #[vl] w (OnePost w ws) := by
  cases hh : headW ws with
  | false => exact one_head ws vl lo hi w hl hhi hm hh
  | true =>
  have h6 : ws.length = 6 := by unfold headW at hh; simp only [Bool.and_eq_true, decide_eq_true_eq] at hh; exact hh.1.1.1
  have q0 : wd ws 0 ≠ ByteArray.empty := by unfold headW at hh; simp only [Bool.and_eq_true, decide_eq_true_eq] at hh; exact hh.1.1.2
  have q2 : wd ws 2 = atW := by unfold headW at hh; simp only [Bool.and_eq_true, decide_eq_true_eq] at hh; exact hh.1.2
  have q4 : wd ws 4 = recW := by unfold headW at hh; simp only [Bool.and_eq_true, decide_eq_true_eq] at hh; exact hh.2
  obtain ⟨A, c, rfl⟩ := hl.slice
  obtain ⟨b, o, c', e, _, hb2, hca⟩ := hl.pos (by omega)
  cases e
  have hcl : ∀ j, j < 6 → w.cell? ⟨b, o + j, none⟩ = some (.string (wd ws j)) := fun j hj => hca j _ (strs_getD ws j (by omega))
  have hsz : ∀ j, (wd ws j).size ≤ 1000000 := fun j => by
    unfold wd
    by_cases hj : j < ws.length
    · simp only [List.getD_eq_getElem?_getD, List.getElem?_eq_getElem hj, Option.getD_some]; exact hs _ (List.getElem_mem hj)
    · simp [List.getD_eq_getElem?_getD, List.getElem?_eq_none (Nat.le_of_not_lt hj)]
  have g0 : w.cell? ⟨b, o, none⟩ = some (.string (wd ws 0)) := hcl 0 (by omega)
  have g2 : w.cell? ⟨b, o + 2, none⟩ = some (.string ⟨#[97, 116]⟩) := by rw [hcl 2 (by omega), q2]; rfl
  have g4 : w.cell? ⟨b, o + 4, none⟩ = some (.string ⟨#[114, 101, 99, 111, 114, 100]⟩) := by rw [hcl 4 (by omega), q4]; rfl
  have e0 : (wd ws 0).toList.isEmpty = false := by
    cases hl : (wd ws 0).toList with
    | nil => exact absurd (toList_inj (y := ByteArray.empty) (by rw [hl, ByteArray.toList_eq]; rfl)) q0
    | cons _ _ => rfl
  have hblt : b < w.heap.size := by omega
  have HCL := Lib.hid hcl
  have HSZ := Lib.hid hsz
  have HH := Lib.hid hh
  rw [h6]
  clear hl hca hs hcl hsz hh q0 q2 q4 h6
  obtain ⟨s0, hs0⟩ : ∃ s0, s0 = wd ws 0 := ⟨_, rfl⟩
  rw [← hs0] at g0 e0
  have HS0 := Lib.hid hs0
  clear hs0
  go_enter Tryd.func23, Tryd.ntmps23
  go_wp2_with fail
  refine (must_true _).mono ?_
  rintro e w1 ⟨rfl, rfl⟩
  go_wp2_with fail
  refine (kinds_any _).mono ?_
  rintro e w1 ⟨rfl, hb1⟩
  unfold kindsV
  go_wp2_with fail
  obtain ⟨W, hW⟩ : ∃ W, W = w1.alloc (.cells #[.string ByteArray.empty, .string kS1, .string kS2, .string kS3, .string kS4, .string kS5] 80) := ⟨_, rfl⟩
  rw [← hW]
  have hz1 : w.heap.size + 1 ≤ w1.heap.size := by have := hb1.size; simpa using this
  have hbW : Below (w.heap.size + 1) w1 W := by rw [hW]; exact (Below.refl _ _).alloc hz1 _
  have hK : W.heap[w1.heap.size]? = some (.cells #[.string ByteArray.empty, .string kS1, .string kS2, .string kS3, .string kS4, .string kS5] 80 (0, 0)) := by rw [hW]; exact heap_new _ _ _ rfl
  have hzW : W.heap.size = w1.heap.size + 1 := by rw [hW]; simp
  clear hW
  have hR0 : W.heap[w.heap.size]? = some (.cells #[.int .i64 0, .int .i64 0, .int .i64 0, .int .i64 0] 37 (0, 0)) := (hbW.block _ (by omega)).trans ((hb1.block _ (by simp)).trans (heap_alloc_new _ _))
  have hB : Below w.heap.size w W := ((Below.refl _ _).alloc (Nat.le_refl _) _).trans ((hb1.mono (by simp)).trans (hbW.mono (by omega)))
  have CW : Hid (∀ wa, Below W.heap.size W wa → ∀ j, j < 6 → wa.cell? ⟨b, o + j * 1, none⟩ = some (.string (wd ws j))) := fun wa hC j hj => by
    rw [Nat.mul_one, hC.cell (p := ⟨b, o + j, none⟩) (show b < W.heap.size by have := hB.size; omega), hB.cell (p := ⟨b, o + j, none⟩) hblt]
    exact HCL.out j hj
  have hsK : Hid (∀ wa, Below W.heap.size W wa → Sees wa 0 wa.heap.size 1 (.slice (some ⟨w1.heap.size, 0, none⟩) 6 6) 6 (strs kindsL)) := fun wa hC =>
    ⟨rfl, .inr ⟨_, _, _, rfl, ⟨Nat.zero_le _, by have := hC.size; omega⟩, fun j u hu => by
      rw [Nat.zero_add, World.cell?, hC.block w1.heap.size (by omega), hK]; simpa [strs, kindsL] using hu⟩⟩
  have htW := ht.up hB
  have hEW := hE.up hB
  have HPN : Hid (∀ (_ : parseW ws = none) (w' : World), Below W.heap.size W w' → OnePost w ws (.panicked bad) w') := fun hn w' hb => OnePost.no hn (hB.trans (hb.mono hB.size))
  have N1 := Lib.hid (number_ok W htW hEW (wd ws 1) (HSZ.out 1) (Pq := fun w' => OnePost w ws (.panicked bad) w') fun hn => HPN.out (parse_num (.inl hn)))
  have N3 := Lib.hid (number_ok W htW hEW (wd ws 3) (HSZ.out 3) (Pq := fun w' => OnePost w ws (.panicked bad) w') fun hn => HPN.out (parse_num (.inr (.inl hn))))
  have N5 := Lib.hid (number_ok W htW hEW (wd ws 5) (HSZ.out 5) (Pq := fun w' => OnePost w ws (.panicked bad) w') fun hn => HPN.out (parse_num (.inr (.inr hn))))
  refine region_list 20 51 (fun w' => Below W.heap.size W w') [is (.slice (some ⟨w1.heap.size, 0, none⟩) 6 6), is (.slice (some ⟨b, o, none⟩) 6 c), is (.pointer (some ⟨b, o + 0 * 1, none⟩)), is (.string (wd ws 0)), is (.int .i64 (idxS kindsL (wd ws 0))), is (.slice (some ⟨b, o, none⟩) 6 c), is (.pointer (some ⟨b, o + 1 * 1, none⟩)), is (.string (wd ws 1)), NumW (wd ws 1), SubW (wd ws 1), is (.slice (some ⟨b, o, none⟩) 6 c), is (.pointer (some ⟨b, o + 3 * 1, none⟩)), is (.string (wd ws 3)), NumW (wd ws 3), is (.slice (some ⟨b, o, none⟩) 6 c), is (.pointer (some ⟨b, o + 5 * 1, none⟩)), is (.string (wd ws 5)), NumW (wd ws 5), FdW ws, AllocW W.heap.size 37 #[.int .i64 0, .int .i64 0, .int .i64 0, .int .i64 0]] (by kernel_rfl) (by kernel_rfl) rfl (by decide) ?hst ?h0 ?hop ?htail
  case hst =>
    simp only [List.mem_cons, List.mem_nil_iff, or_false, forall_eq_or_imp, forall_eq]
    exact ⟨is_stable _, is_stable _, is_stable _, is_stable _, is_stable _, is_stable _, is_stable _, is_stable _, numW_stable _, subW_stable _, is_stable _, is_stable _, is_stable _, numW_stable _, is_stable _, is_stable _, is_stable _, numW_stable _, fdW_stable _, allocW_stable _ _ _⟩
  case h0 => exact (Below.refl _ _).drew
  case hop =>
    refine ⟨?_, ?_, ?_, ?_, ?_, ?_, ?_, ?_, ?_, ?_, ?_, ?_, ?_, ?_, ?_, ?_, ?_, ?_, ?_, ?_, trivial⟩
    · exact ok_t1 3 (.pointer (some ⟨w1.heap.size, 0, none⟩)) (.slice (some ⟨w1.heap.size, 0, none⟩) 6 6) rfl (by kernel_rfl) (fun a wa _ e1 => by go_simp) rfl
    · exact ok_move (.tmp 0) (is (.slice (some ⟨b, o, none⟩) 6 c)) rfl (by kernel_rfl) (fun _ _ _ h => h)
    · exact ok_indexC 24 9 29 (b) (o) (6) (c) 1 0 (0) rfl (by kernel_rfl) Tryd.underlying24 str1_size (rfl) (by omega) rfl
    · exact ok_load 9 (.tmp 30) (.pointer (some ⟨b, o + 0 * 1, none⟩)) (.string (wd ws 0)) rfl (by kernel_rfl) (fun wa hC => run_load1 wa (by kernel_rfl) (CW.out wa hC 0 (by omega))) rfl
    · exact ok_callF 25 [.tmp 28, .tmp 31] _ [.slice (some ⟨w1.heap.size, 0, none⟩) 6 6, .string (wd ws 0)] rfl (fun _ _ => by kernel_rfl) ⟨by kernel_rfl, by kernel_rfl, trivial⟩ (fun wa hC => (index_any kindsL (wd ws 0) _ 0 wa.heap.size wa (hsK.out wa hC) (by decide)).mono fun e x ⟨he, hw⟩ => ⟨_, he, hw ▸ hC, hw ▸ Below.refl _ _, rfl⟩)
    · exact ok_move (.tmp 0) (is (.slice (some ⟨b, o, none⟩) 6 c)) rfl (by kernel_rfl) (fun _ _ _ h => h)
    · exact ok_indexC 24 9 33 (b) (o) (6) (c) 1 1 (1) rfl (by kernel_rfl) Tryd.underlying24 str1_size (rfl) (by omega) rfl
    · exact ok_load 9 (.tmp 34) (.pointer (some ⟨b, o + 1 * 1, none⟩)) (.string (wd ws 1)) rfl (by kernel_rfl) (fun wa hC => run_load1 wa (by kernel_rfl) (CW.out wa hC 1 (by omega))) rfl
    · exact ok_callP 26 [.tmp 35] _ [.string (wd ws 1)] rfl (fun _ _ => by kernel_rfl) ⟨by kernel_rfl, trivial⟩ (fun wa hC => (N1.out wa hC).mono fun e x h => by
      rcases h with h | ⟨ch, he, rfl, hp⟩
      · exact .inl h
      · exact .inr ⟨_, he, fun a hd => ⟨hd.1, hp⟩⟩)
    · refine ok_value fun a wa hC hpre => ?_
      have h1 : NumW (wd ws 1) (a.eval (.tmp 36)) wa := hpre (.tmp 36) (by simp [Op.operands])
      obtain ⟨n, hn, hv⟩ := h1
      have e1 : a.tmps[36]?.getD undef = .int .i64 n := by simpa [Act.eval] using hv
      refine ⟨.int .i64 (IntKind.i64.wrap (n - 1)), ?_, n, hn, rfl⟩
      clear hv
      go_simp
    · exact ok_move (.tmp 0) (is (.slice (some ⟨b, o, none⟩) 6 c)) rfl (by kernel_rfl) (fun _ _ _ h => h)
    · exact ok_indexC 24 9 38 (b) (o) (6) (c) 1 3 (3) rfl (by kernel_rfl) Tryd.underlying24 str1_size (rfl) (by omega) rfl
    · exact ok_load 9 (.tmp 39) (.pointer (some ⟨b, o + 3 * 1, none⟩)) (.string (wd ws 3)) rfl (by kernel_rfl) (fun wa hC => run_load1 wa (by kernel_rfl) (CW.out wa hC 3 (by omega))) rfl
    · exact ok_callP 26 [.tmp 40] _ [.string (wd ws 3)] rfl (fun _ _ => by kernel_rfl) ⟨by kernel_rfl, trivial⟩ (fun wa hC => (N3.out wa hC).mono fun e x h => by
      rcases h with h | ⟨ch, he, rfl, hp⟩
      · exact .inl h
      · exact .inr ⟨_, he, fun a hd => ⟨hd.1, hp⟩⟩)
    · exact ok_move (.tmp 0) (is (.slice (some ⟨b, o, none⟩) 6 c)) rfl (by kernel_rfl) (fun _ _ _ h => h)
    · exact ok_indexC 24 9 42 (b) (o) (6) (c) 1 5 (5) rfl (by kernel_rfl) Tryd.underlying24 str1_size (rfl) (by omega) rfl
    · exact ok_load 9 (.tmp 43) (.pointer (some ⟨b, o + 5 * 1, none⟩)) (.string (wd ws 5)) rfl (by kernel_rfl) (fun wa hC => run_load1 wa (by kernel_rfl) (CW.out wa hC 5 (by omega))) rfl
    · exact ok_callP 26 [.tmp 44] _ [.string (wd ws 5)] rfl (fun _ _ => by kernel_rfl) ⟨by kernel_rfl, trivial⟩ (fun wa hC => (N5.out wa hC).mono fun e x h => by
      rcases h with h | ⟨ch, he, rfl, hp⟩
      · exact .inl h
      · exact .inr ⟨_, he, fun a hd => ⟨hd.1, hp⟩⟩)
    · refine ok_value fun a wa hC hpre => ?_
      have h1 : is (.int .i64 (idxS kindsL (wd ws 0))) (a.eval (.tmp 32)) wa := hpre (.tmp 32) (by simp [Op.operands])
      have h2 : SubW (wd ws 1) (a.eval (.tmp 37)) wa := hpre (.tmp 37) (by simp [Op.operands])
      have h3 : NumW (wd ws 3) (a.eval (.tmp 41)) wa := hpre (.tmp 41) (by simp [Op.operands])
      have h4 : NumW (wd ws 5) (a.eval (.tmp 45)) wa := hpre (.tmp 45) (by simp [Op.operands])
      obtain ⟨n1, hn1, hv1⟩ := h2
      obtain ⟨n3, hn3, hv3⟩ := h3
      obtain ⟨n5, hn5, hv5⟩ := h4
      have e1 : a.tmps[32]?.getD undef = .int .i64 (idxS kindsL (wd ws 0)) := by simpa [Act.eval, is] using h1
      have e2 : a.tmps[37]?.getD undef = .int .i64 (IntKind.i64.wrap (n1 - 1)) := by simpa [Act.eval] using hv1
      have e3 : a.tmps[41]?.getD undef = .int .i64 n3 := by simpa [Act.eval] using hv3
      have e4 : a.tmps[45]?.getD undef = .int .i64 n5 := by simpa [Act.eval] using hv5
      refine ⟨.agg #[.int .i64 (idxS kindsL (wd ws 0)), .int .i64 (IntKind.i64.wrap (n1 - 1)), .int .i64 n5, .int .i64 n3], ?_, n1, n3, n5, hn1, hn3, hn5, rfl⟩
      clear h1 hv1 hv3 hv5
      go_simp
    · exact ok_alloc 37 #[.int .i64 0, .int .i64 0, .int .i64 0, .int .i64 0] (fun a wa => by go_simp) rfl
  case htail =>
    intro τ w2 hC hR
    have r18 : FdW ws (τ 18) w2 := hR 18 (by decide)
    have r19 : AllocW W.heap.size 37 #[.int .i64 0, .int .i64 0, .int .i64 0, .int .i64 0] (τ 19) w2 := hR 19 (by decide)
    obtain ⟨B4, hB4, e19, hc4⟩ := r19
    obtain ⟨na, nt, nr, hna, hnt, hnr, e18⟩ := r18
    simp only [putAll, List.getElem?_toArray, List.getElem?_cons_succ, List.getElem?_cons_zero, Option.bind_some, Act.put, List.setIfInBounds_toArray, List.set_cons_succ, List.set_cons_zero, List.drop_succ_cons, List.drop_zero, e18, e19]
    clear hR e18 e19
    obtain ⟨fk, hfk⟩ : ∃ x, x = idxS kindsL (wd ws 0) := ⟨_, rfl⟩
    obtain ⟨fa, hfa⟩ : ∃ x, x = IntKind.i64.wrap (na - 1) := ⟨_, rfl⟩
    have hmk : mkF ws na nt nr = ⟨fk, fa, nr, nt⟩ := by rw [hfk, hfa]; rfl
    have HPW := Lib.hid (parse_all HH.out hna hnt hnr)
    rw [hmk] at HPW
    rw [hmk]
    simp only [Fd.cells]
    clear hfk hfa hmk hna hnt hnr
    have hne4 : w.heap.size ≠ B4 := by have := hB.size; omega
    refine wpList_store_row rfl 37 (.tmp 4) (.tmp 46) rfl B4 _ rfl rfl 37 _ hc4 (by kernel_rfl) rfl (by simp [Value.oneCell']) ?_
    have h4 := setRow_heap w2 B4 _ #[.int .i64 fk, .int .i64 fa, .int .i64 nr, .int .i64 nt] 37 (0, 0) hc4
    have hR2 : (w2.setRow B4 #[.int .i64 fk, .int .i64 fa, .int .i64 nr, .int .i64 nt]).heap[w.heap.size]? = some (.cells #[.int .i64 0, .int .i64 0, .int .i64 0, .int .i64 0] 37 (0, 0)) := (setRow_other _ _ _ _ hne4).trans ((hC.block _ (Array.getElem?_eq_some_iff.1 hR0).1).trans hR0)
    have hB3 : Below w.heap.size w (w2.setRow B4 #[.int .i64 fk, .int .i64 fa, .int .i64 nr, .int .i64 nt]) := below_setRow (hB.trans (hC.mono hB.size)) (by have := hB.size; omega) _
    generalize w2.setRow B4 #[.int .i64 fk, .int .i64 fa, .int .i64 nr, .int .i64 nt] = w3 at *
    have c0 : w3.cell? ⟨B4, 0, none⟩ = some (.int .i64 fk) := by rw [World.cell?, h4]; rfl
    have c1 : w3.cell? ⟨B4, 1, none⟩ = some (.int .i64 fa) := by rw [World.cell?, h4]; rfl
    have c2 : w3.cell? ⟨B4, 2, none⟩ = some (.int .i64 nr) := by rw [World.cell?, h4]; rfl
    have c3 : w3.cell? ⟨B4, 3, none⟩ = some (.int .i64 nt) := by rw [World.cell?, h4]; rfl
    have hlt4 : B4 < w3.heap.size := (Array.getElem?_eq_some_iff.1 h4).1
    have HR2 := Lib.hid hR2
    clear h4 hR2 hc4 hR0 hK hC
    go_wp2_with fail
    refine (found_any fk fa nr nt _).mono ?_
    rintro e w4 ⟨rfl, hb4⟩
    have hB4' : Below w.heap.size w w4 := hB3.trans (hb4.mono hB3.size)
    cases hfd : foundB ⟨fk, fa, nr, nt⟩ with
    | false =>
      have HN := Lib.hid (OnePost.no (w := w) (w' := w4) (ws := ws) (by rw [HPW.out, hfd]; rfl) hB4')
      clear hfd
      go_wp2_with fail
      refine (must_false _).mono ?_
      rintro e w5 ⟨rfl, rfl⟩
      exact ⟨rfl, HN.out⟩
    | true =>
      have HY := Lib.hid (show parseW ws = some ⟨fk, fa, nr, nt⟩ by rw [HPW.out, hfd]; rfl)
      have hR4 : w4.heap[w.heap.size]? = some (.cells #[.int .i64 0, .int .i64 0, .int .i64 0, .int .i64 0] 37 (0, 0)) := (hb4.block _ (Array.getElem?_eq_some_iff.1 HR2.out).1).trans HR2.out
      have d0 : w4.cell? ⟨B4, 0, none⟩ = some (.int .i64 fk) := (hb4.cell (p := ⟨B4, 0, none⟩) hlt4).trans c0
      have d1 : w4.cell? ⟨B4, 1, none⟩ = some (.int .i64 fa) := (hb4.cell (p := ⟨B4, 1, none⟩) hlt4).trans c1
      have d2 : w4.cell? ⟨B4, 2, none⟩ = some (.int .i64 nr) := (hb4.cell (p := ⟨B4, 2, none⟩) hlt4).trans c2
      have d3 : w4.cell? ⟨B4, 3, none⟩ = some (.int .i64 nt) := (hb4.cell (p := ⟨B4, 3, none⟩) hlt4).trans c3
      have r0 : w4.cell? ⟨w.heap.size, 0, none⟩ = some (.int .i64 0) := by rw [World.cell?, hR4]; rfl
      have r1 : w4.cell? ⟨w.heap.size, 1, none⟩ = some (.int .i64 0) := by rw [World.cell?, hR4]; rfl
      have r2 : w4.cell? ⟨w.heap.size, 2, none⟩ = some (.int .i64 0) := by rw [World.cell?, hR4]; rfl
      have r3 : w4.cell? ⟨w.heap.size, 3, none⟩ = some (.int .i64 0) := by rw [World.cell?, hR4]; rfl
      have z0 : w4.frozen? ⟨w.heap.size, 0, none⟩ = false := by simp [World.frozen?, hR4]
      have z1 : w4.frozen? ⟨w.heap.size, 1, none⟩ = false := by simp [World.frozen?, hR4]
      have z2 : w4.frozen? ⟨w.heap.size, 2, none⟩ = false := by simp [World.frozen?, hR4]
      have z3 : w4.frozen? ⟨w.heap.size, 3, none⟩ = false := by simp [World.frozen?, hR4]
      have HR4 := Lib.hid hR4
      clear hfd hR4 c0 c1 c2 c3
      go_wp2_with fail
      refine (must_true _).mono ?_
      rintro e w5 ⟨rfl, rfl⟩
      have hR4 := HR4.out
      have s0' := heap_setCell_same _ _ 0 _ _ _ (.int .i64 fk) hR4
      have s1' := heap_setCell_same _ _ 1 _ _ _ (.int .i64 fa) s0'
      have s2' := heap_setCell_same _ _ 2 _ _ _ (.int .i64 nr) s1'
      have s3' := heap_setCell_same _ _ 3 _ _ _ (.int .i64 nt) s2'
      have S3 := Lib.hid s3'
      clear hR4 s0' s1' s2' s3'
      go_wp2_with fail
      refine bodyPost_ret (v := .agg #[.int .i64 fk, .int .i64 fa, .int .i64 nr, .int .i64 nt]) ?_ rfl ?_
      · have l0 := load_row S3.out (by kernel_rfl) (by kernel_rfl)
        simp only [results, Tryd.results23]
        simp [asAddr]
        exact l0
      · exact OnePost.yes HY.out ((((hB4'.setCell (by simp) _).setCell (by simp) _).setCell (by simp) _).setCell (by simp) _)
end Go.Proofs.YtckagpelhjgnpaaDoor
