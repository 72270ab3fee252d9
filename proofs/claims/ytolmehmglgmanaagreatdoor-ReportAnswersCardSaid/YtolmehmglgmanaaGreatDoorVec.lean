/- What the layer of vectors computes: the walks; no condition but sizes. -/
import Derived.Test.YtolmehmglgmanaaGreatDoorBase
namespace Go.Proofs.YtolmehmglgmanaaGreatDoor
open Go.RowKit
def insideB (m : Int) (xs : List Int) : Bool := xs.all fun n => decide (-m ≤ n) && decide (n ≤ m)
theorem insideB_take_succ (m : Int) (xs : List Int) (k : Nat) (h : k < xs.length) : insideB m (xs.take (k + 1)) = (insideB m (xs.take k) && (decide (-m ≤ xs[k]) && decide (xs[k] ≤ m))) := by
  unfold insideB; rw [List.take_succ_eq_append_getElem h, List.all_append]; simp only [List.all_cons, List.all_nil, Bool.and_true]
theorem insideB_no (m : Int) (xs : List Int) (k : Nat) (h : k < xs.length) (hx : xs[k] < -m ∨ m < xs[k]) : insideB m xs = false := by
  unfold insideB
  rw [List.all_eq_false]
  exact ⟨xs[k], List.getElem_mem h, by simp; omega⟩
set_option maxHeartbeats 400000 in
theorem inside_any (m : Int) (hm0 : 0 ≤ m) (hm : m ≤ 1099511627776) (xs : List Int) (v : Value) (w : World) (hl : xs.length ≤ 4611686018427387904)
    (h : Sees w 0 w.heap.size 1 v xs.length (ints xs)) :
    Calls Tryz.prog 43 #[.int .i64 m, v] w fun e w' => e = .returned (.bool (insideB m xs)) ∧ w = w' := by
  obtain ⟨A, c, hv⟩ := h.slice
  subst hv
  go_enter Tryz.func43, Tryz.ntmps43
  go_wp2
  go_loop [4, 6, 9] (fun _ _ i => ∃ k : Nat, k ≤ xs.length ∧ i = .int .i64 k ∧ insideB m (xs.take k) = true) (fun _ _ i => xs.length - (intOf i).toNat)
  case atStart => exact ⟨0, Nat.zero_le _, rfl, rfl⟩
  case round =>
    obtain ⟨k, hk, rfl, hin⟩ := hrel
    have HIN := Lib.hid hin
    clear hin
    by_cases hlt : k < xs.length
    · obtain ⟨b, o, c', e, _, hb, hc⟩ := h.pos (by omega)
      have hcell := hc k (.int .i64 xs[k]) (ints_at xs k hlt)
      cases e
      clear hc h
      go_wp2
      · go_ret
        exact ⟨ret_bool (insideB_no m xs k hlt ‹_›).symm, rfl⟩
      · exact ⟨⟨k + 1, by omega, by go_num, by rw [insideB_take_succ m xs k hlt, HIN.out]; simp; omega⟩, by simp [intOf]; omega⟩
      · go_ret
        exact ⟨ret_bool (insideB_no m xs k hlt (.inl ‹_›)).symm, rfl⟩
    · go_wp2
      go_ret
      exact ⟨ret_bool (by rw [← HIN.out, List.take_of_length_le (by omega)]), rfl⟩

set_option maxHeartbeats 400000 in
theorem point_any (x y z : Int) (w : World)  :
    Calls Tryz.prog 33 #[.agg #[.int .i64 x, .int .i64 y, .int .i64 z]] w fun e w' => e = .returned (.bool (insideB 1048576 [x, y, z])) ∧ Below w.heap.size w w' := by
  go_enter Tryz.func33, Tryz.ntmps33
  go_wp2_with fail
  refine (inside_any _ ?_ ?_ [x, y, z] _ _ ?_ ?_).mono ?_
  · omega
  · omega
  · simp
  · exact Sees.new1 _ [.int .i64 x, .int .i64 y, .int .i64 z] 3 _ _ _ 1 3 rfl (by simp) (Nat.zero_le _) (by simp)
  rintro e w' ⟨rfl, rfl⟩
  go_wp2
  go_ret
  exact ⟨rfl, ((Below.refl _ _).alloc (Nat.le_refl _) _).alloc (by simp) _⟩
def ptB (x y z : Int) : Bool := insideB 1048576 [x, y, z]
theorem ptB_iff (x y z : Int) : ptB x y z = true ↔ (-1048576 ≤ x ∧ x ≤ 1048576) ∧ (-1048576 ≤ y ∧ y ≤ 1048576) ∧ (-1048576 ≤ z ∧ z ≤ 1048576) := by
  unfold ptB insideB; simp
theorem point_pt (x y z : Int) (w : World) : Calls Tryz.prog 33 #[.agg #[.int .i64 x, .int .i64 y, .int .i64 z]] w fun e w' => e = .returned (.bool (ptB x y z)) ∧ Below w.heap.size w w' := point_any x y z w
end Go.Proofs.YtolmehmglgmanaaGreatDoor
