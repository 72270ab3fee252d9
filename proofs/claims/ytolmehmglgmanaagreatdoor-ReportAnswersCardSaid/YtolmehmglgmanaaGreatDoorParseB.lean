/- Words that the reading of lines shares: numbers, new variables. -/
import Derived.Test.YtolmehmglgmanaaGreatDoorSplit
import Derived.Test.YtolmehmglgmanaaGreatDoorExam
import Derived.Laws.CopyOwn
namespace Go.Proofs.YtolmehmglgmanaaGreatDoor
open Go.RowKit

section
variable {P : Program} {ops : Array Oper} {n : Nat} {C : World → Prop} {R : Nat → Value → World → Prop} {a0 : Act} {Q : Exit → Act → World → Prop}
theorem ok_assign {i : Nat} {o : Oper} (x : Operand) (r : Value → World → Prop) (ho : o.op = .assign x) (hx : preOf ops n R a0 x = r) (h : ∀ (v : Value) (w : World), C w → r v w → R i v w) : OpOk P ops n C R a0 Q i o :=
  ok_value fun a w hC hpre => ⟨a.eval x, by simp [execOp, ho], h _ w hC (by have := hpre x (by rw [ho]; simp [Op.operands]); rw [hx] at this; exact this)⟩
/-- A call that may panic. -/
theorem ok_callP {i : Nat} {o : Oper} (f : FuncId) (xs : List Operand) (ts : Array TypeId) (us : List Value) (ho : o.op = .call { callee := .value (.func f), args := xs.toArray, argTypes := ts }) (hcall : ∀ args w, (callFunc f args).run P w = .ok (.enter f args) w)
    (hargs : PreArgs ops n R a0 xs us) (hc : ∀ w, C w → Calls P f us.toArray w fun e w' => (∃ v, e = .returned v ∧ C w' ∧ Below w.heap.size w w' ∧ R i v w') ∨ ∃ ch, e = .panicked ch ∧ ∀ a : Act, SameF ops n a0 a → Q (.panic ch) a w') : OpOk P ops n C R a0 Q i o := by
  intro a w hd hC hpre
  have hm := map_eval (a := a) (w := w) xs us hargs (fun x hx => hpre x (by rw [ho]; simp [Op.operands, Call.operands, hx]))
  have he : a.eval (.func f) = .func (.func f) #[] #[] := rfl
  have hrun : (execOp a.eval o).run P w = .ok (.enter f us.toArray) w := by simp [execOp, ho, resolve, invoke, he, hm, hcall, Deferred.ofValue]
  unfold Oper.wp
  rw [hrun]
  refine (hc w hC).mono fun e w' h => ?_
  rcases h with ⟨v, he, g1, g2, g3⟩ | ⟨ch, he, hq⟩
  · subst he; exact ⟨v, rfl, g1, g2, g3⟩
  · subst he; exact hq a hd
/-- An element's address, the index a constant. -/
theorem ok_indexC {i : Nat} {o : Oper} (T e : TypeId) (t : Nat) (b off len c size : Nat) (j : Int) (k : Nat) (ho : o.op = .indexAddr T (.tmp t) (.const (.int .i64 j))) (hx : preOf ops n R a0 (.tmp t) = is (.slice (some ⟨b, off, none⟩) len c))
    (hT : P.underlying T = some (.slice e)) (hsz : ∀ w, (sizeOf e).run P w = .ok size w) (hj : j = (k : Int)) (hk : k < len) (hr : R i = is (.pointer (some ⟨b, off + k * size, none⟩))) : OpOk P ops n C R a0 Q i o :=
  ok_tc t (.int .i64 j) _ (.pointer (some ⟨b, off + k * size, none⟩)) (by rw [ho]; rfl) hx (fun a w _ h1 => by
    have e1 : a.eval (.tmp t) = .slice (some ⟨b, off, none⟩) len c := by simpa [Act.eval] using h1
    have e2 : a.eval (.const (.int .i64 j)) = .int .i64 j := rfl
    have hj2 : (0 : Int) ≤ j ∧ j < (len : Int) := by omega
    have hj3 : j.toNat = k := by omega
    simp [execOp, ho, e1, e2, Instr.indexAt, asIntOf, run_underlying hT, hj2, hj3, hsz, add_none]) hr
/-- A new variable. -/
def AllocW (lo : Nat) (e : TypeId) (cs : Array Value) (v : Value) (w : World) : Prop := ∃ B, lo ≤ B ∧ v = .pointer (some ⟨B, 0, none⟩) ∧ w.heap[B]? = some (.cells cs e (0, 0))
theorem allocW_stable (lo : Nat) (e : TypeId) (cs : Array Value) : Stable (AllocW lo e cs) := fun _ _ _ hb ⟨B, hl, hv, hc⟩ => ⟨B, hl, hv, (hb.block B (Array.getElem?_eq_some_iff.1 hc).1).trans hc⟩
theorem ok_alloc {W : World} {i : Nat} {o : Oper} (e : TypeId) (cs : Array Value) (h : ∀ (a : Act) (w : World), (execOp a.eval o).run P w = .ok (.value (.pointer (some ⟨w.heap.size, 0, none⟩))) (w.alloc (.cells cs e))) (hr : R i = AllocW W.heap.size e cs) : OpOk P ops n (fun w' => Below W.heap.size W w') R a0 Q i o := by
  intro a w _ hC _
  unfold Oper.wp
  rw [h a w]
  refine ⟨_, rfl, hC.alloc hC.size _, (Below.refl _ _).alloc (Nat.le_refl _) _, ?_⟩
  rw [hr]
  exact ⟨_, hC.size, rfl, heap_alloc_new _ _⟩
end
theorem str1_size (w : World) : (sizeOf 9).run Tryz.prog w = .ok 1 w := by kernel_rfl
def wd (ws : List ByteArray) (j : Nat) : ByteArray := ws.getD j ByteArray.empty
def NumW (s : ByteArray) : Value → World → Prop := fun v _ => ∃ n, numS s = some n ∧ v = .int .i64 n
theorem numW_stable (s : ByteArray) : Stable (NumW s) := fun _ _ _ _ h => h
theorem number_ok (W : World) (ht : Tab W) (hE : Errs W) (s : ByteArray) (hs : s.size ≤ 1000000) {Pq : World → Prop} (hq : numS s = none → ∀ w', Below W.heap.size W w' → Pq w') : ∀ wa, Below W.heap.size W wa → Calls Tryz.prog 28 #[.string s] wa fun e w' => (∃ v, e = .returned v ∧ Below W.heap.size W w' ∧ Below wa.heap.size wa w' ∧ NumW s v w') ∨ ∃ ch, e = .panicked ch ∧ ch = bad ∧ Pq w' := fun wa hC => by
  refine (number_any s wa hs (ht.up hC) (hE.up hC)).mono fun e w' ⟨hb, h⟩ => ?_
  have hB := hC.trans (hb.mono hC.size)
  cases hn : numS s with
  | some n => rw [hn] at h; exact .inl ⟨_, h, hB, hb, n, hn, rfl⟩
  | none => rw [hn] at h; exact .inr ⟨_, h, rfl, hq hn w' hB⟩
end Go.Proofs.YtolmehmglgmanaaGreatDoor
