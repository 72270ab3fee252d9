/- The small functions of the laws on reports: small, few, decimal. -/
import Derived.Test.YtolmehmglgmanaaGreatDoorFound
namespace Go.Proofs.YtolmehmglgmanaaGreatDoor
open Go.RowKit

def smallB (n : Int) : Bool := decide (-4611686018427387904 < n) && decide (n < 4611686018427387904)
set_option maxRecDepth 100000 in
theorem small_any (n : Int) (w : World) : Calls Tryz.prog 8 #[.int .i64 n] w fun e w' => e = .returned (.bool (smallB n)) ∧ w = w' := by
  by_cases h1 : -4611686018427387904 < n
  · have HS : Hid (smallB n = decide (n < 4611686018427387904)) := by unfold Hid; simp [smallB, h1]
    go_enter Tryz.func8, Tryz.ntmps8
    go_wp2_with fail
    go_ret
    rw [HS.out]
    exact ⟨rfl, rfl⟩
  · have HS : Hid (smallB n = false) := by unfold Hid; simp [smallB, h1]
    have h2 : decide (-4611686018427387904 < n) = false := decide_eq_false h1
    go_enter Tryz.func8, Tryz.ntmps8
    go_wp2_with fail
    go_ret
    rw [HS.out]
    exact ⟨rfl, rfl⟩
/-- At most eight lines of at most 200 bytes. -/
def fewB (l : List ByteArray) : Bool := decide (l.length ≤ 8) && l.all fun s => decide (s.size ≤ 200)
set_option maxRecDepth 100000 in
set_option maxHeartbeats 1000000 in
theorem few_any (l : List ByteArray) (vl : Value) (lo hi : Nat) (w : World) (hl : Sees w lo hi 1 vl l.length (strs l)) (hm : l.length ≤ maxLen) (hs : ∀ s ∈ l, s.size ≤ maxLen) :
    Calls Tryz.prog 5 #[vl] w fun e w' => e = .returned (.bool (fewB l)) ∧ w = w' := by
  unfold maxLen at hm hs
  obtain ⟨A, c, rfl⟩ := hl.slice
  have HL := Lib.hid hl
  have HS := Lib.hid hs
  clear hl hs
  go_enter Tryz.func5, Tryz.ntmps5
  go_wp2_with fail
  go_loop [3] (fun i => ∃ k : Nat, k ≤ l.length ∧ k ≤ 9 ∧ i = .int .i64 k ∧ ∀ j, j < k → (l.getD j ByteArray.empty).size ≤ 200) (fun i => l.length - (intOf i).toNat)
  case atStart => exact ⟨0, Nat.zero_le _, by omega, rfl, fun j hj => by omega⟩
  case round =>
    obtain ⟨k, hk, hk9, rfl, hj⟩ := hrel
    have HJ := Lib.hid hj
    clear hj
    by_cases hlt : k < l.length
    · by_cases h9 : k < 9
      · obtain ⟨ba, oa, ca', ea, _, _, hca⟩ := HL.out.pos (by omega)
        cases ea
        have g1 : w.cell? ⟨ba, oa + k, none⟩ = some (.string (l.getD k ByteArray.empty)) := hca k _ (strs_getD l k hlt)
        have hsz : (l.getD k ByteArray.empty).size ≤ 9223372036854775807 := HS.out _ (by simp [hlt])
        have HN : Hid (¬ (l.getD k ByteArray.empty).size ≤ 200 → fewB l = false) := fun h => by
          unfold fewB
          have : (l.all fun s => decide (s.size ≤ 200)) = false := by
            rw [List.all_eq_false]
            exact ⟨_, List.getElem_mem hlt, by simpa [hlt] using h⟩
          rw [this]; simp
        clear hca
        generalize hx : l.getD k ByteArray.empty = x at *
        have HX := Lib.hid hx
        clear hx
        by_cases h200 : x.size ≤ 200
        · go_wp2_with fail
          go_round
          case rel => 
            refine ⟨k + 1, by omega, by omega, by go_num, fun j hj => ?_⟩
            by_cases hjk : j = k
            · rw [hjk, HX.out]; exact h200
            · exact HJ.out j (by omega)
          case measure => simp [intOf]; omega
        · have HB := Lib.hid (HN.out h200)
          have h2 : 200 < x.size := by omega
          clear h200
          go_wp2_with fail
          go_ret
          rw [HB.out]
          exact ⟨rfl, rfl⟩
      · have HB : Hid (fewB l = decide ((l.length : Int) ≤ 8)) := by
          unfold Hid fewB
          rw [decide_eq_false (show ¬ l.length ≤ 8 by omega), decide_eq_false (show ¬ (l.length : Int) ≤ 8 by omega)]; rfl
        go_wp2_with fail
        go_ret
        rw [HB.out]
        exact ⟨rfl, rfl⟩
    · have HB : Hid (fewB l = decide ((l.length : Int) ≤ 8)) := by
        unfold Hid fewB
        have : (l.all fun s => decide (s.size ≤ 200)) = true := by
          rw [List.all_eq_true]
          intro s hs
          obtain ⟨j, hj, rfl⟩ := List.getElem_of_mem hs
          have := HJ.out j (by omega)
          simpa [hj] using this
        rw [this, Bool.and_true]
        by_cases h : l.length ≤ 8
        · rw [decide_eq_true h, decide_eq_true (by omega)]
        · rw [decide_eq_false h, decide_eq_false (by omega)]
      go_wp2_with fail
      go_ret
      rw [HB.out]
      exact ⟨rfl, rfl⟩
theorem decimal_ok (W : World) (n : Int) (h0 : -9223372036854775807 ≤ n) (h1 : n ≤ 9223372036854775807) : ∀ wa, Below W.heap.size W wa → Calls Tryz.prog 21 #[.int .i64 n] wa fun e w' => ∃ v, e = .returned v ∧ Below W.heap.size W w' ∧ Below wa.heap.size wa w' ∧ is (.string (ita n)) v w' := fun wa hC =>
  (decimal_any n wa h0 h1).mono fun e w' ⟨he, hb'⟩ => ⟨_, he, hC.trans (hb'.mono hC.size), hb', rfl⟩
end Go.Proofs.YtolmehmglgmanaaGreatDoor
