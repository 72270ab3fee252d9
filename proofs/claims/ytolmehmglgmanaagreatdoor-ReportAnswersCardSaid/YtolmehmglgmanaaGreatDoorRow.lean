/- Words for regions that draw their order: a slice that the region builds, strings. -/
import Derived.Test.YtolmehmglgmanaaGreatDoorRegion
import Derived.Laws.IdiomStrings
namespace Go.Proofs.YtolmehmglgmanaaGreatDoor
open Go.RowKit

/-- A slice over a block of its own from lo on. -/
def RowW (lo : Nat) (e : TypeId) (us : List Value) (v : Value) (w : World) : Prop :=
  ∃ b, lo ≤ b ∧ v = .slice (some ⟨b, 0, none⟩) us.length us.length ∧ w.heap[b]? = some (.cells us.toArray e (0, 0))
theorem rowW_stable (lo : Nat) (e : TypeId) (us : List Value) : Stable (RowW lo e us) := fun _ _ _ hb ⟨b, hl, hv, hc⟩ => ⟨b, hl, hv, (hb.block b (Array.getElem?_eq_some_iff.1 hc).1).trans hc⟩
theorem RowW.sees {lo : Nat} {e : TypeId} {us : List Value} {v : Value} {w : World} (h : RowW lo e us v w) : Sees w lo w.heap.size 1 v us.length us := by
  obtain ⟨b, hl, rfl, hc⟩ := h
  refine ⟨by simp, .inr ⟨b, 0, _, rfl, ⟨hl, (Array.getElem?_eq_some_iff.1 hc).1⟩, fun j u hu => ?_⟩⟩
  simp [World.cell?, hc, hu]
section
variable {P : Program} {ops : Array Oper} {n : Nat} {R : Nat → Value → World → Prop} {a0 : Act} {Q : Exit → Act → World → Prop} {W : World}
theorem ok_row {i : Nat} {o : Oper} (e : TypeId) (us : List Value) (h : ∀ (a : Act) (w : World), Below W.heap.size W w → (∀ x, x ∈ o.op.operands → preOf ops n R a0 x (a.eval x) w) →
      (execOp a.eval o).run P w = .ok (.value (.slice (some ⟨w.heap.size, 0, none⟩) us.length us.length)) (w.alloc (.cells us.toArray e))) (hr : R i = RowW W.heap.size e us) : OpOk P ops n (fun w' => Below W.heap.size W w') R a0 Q i o := by
  intro a w _ hC hpre
  unfold Oper.wp
  rw [h a w hC hpre]
  refine ⟨_, rfl, hC.alloc hC.size _, (Below.refl _ _).alloc (Nat.le_refl _) _, ?_⟩
  rw [hr]
  exact ⟨_, hC.size, rfl, heap_alloc_new _ _⟩
theorem ok_row1 {i : Nat} {o : Oper} (e : TypeId) (t : Nat) (u : Value) (ho : o.op.operands = #[.tmp t]) (hx : preOf ops n R a0 (.tmp t) = is u)
    (h : ∀ (a : Act) (w : World), a.tmps[t]?.getD undef = u → (execOp a.eval o).run P w = .ok (.value (.slice (some ⟨w.heap.size, 0, none⟩) 1 1)) (w.alloc (.cells #[u] e))) (hr : R i = RowW W.heap.size e [u]) : OpOk P ops n (fun w' => Below W.heap.size W w') R a0 Q i o :=
  ok_row e [u] (fun a w _ hpre => h a w (by have := hpre (.tmp t) (by rw [ho]; simp); rw [hx] at this; simpa [Act.eval, is] using this)) hr
/-- A constant and a slot. -/
theorem ok_ct {C : World → Prop} {i : Nat} {o : Oper} (t : Nat) (c u v : Value) (ho : o.op.operands = #[.const c, .tmp t]) (hx : preOf ops n R a0 (.tmp t) = is u) (h : ∀ (a : Act) (w : World), C w → a.tmps[t]?.getD undef = u → (execOp a.eval o).run P w = .ok (.value v) w) (hr : R i = is v) : OpOk P ops n C R a0 Q i o :=
  ok_value fun a w hC hpre => ⟨v, h a w hC (by have := hpre (.tmp t) (by rw [ho]; simp); rw [hx] at this; simpa [Act.eval, is] using this), by rw [hr]; rfl⟩
end
end Go.Proofs.YtolmehmglgmanaaGreatDoor
