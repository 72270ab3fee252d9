/- What the layer of glides computes: the walks. -/
import Derived.Test.YtolmehmglgmanaaGreatDoorBase
import Derived.Test.YtolmehmglgmanaaGreatDoorVec
namespace Go.Proofs.YtolmehmglgmanaaGreatDoor
open Go.RowKit
def termsTo (a b : Int) (row : List Int) (k : Nat) : List Int := a :: (row.take k).map (· * (b - a))
theorem termsTo_succ (a b : Int) (row : List Int) (k : Nat) (h : k < row.length) : ints (termsTo a b row k) ++ [.int .i64 (row[k] * (b - a))] = ints (termsTo a b row (k + 1)) := by
  unfold termsTo ints; rw [List.take_succ_eq_append_getElem h]; simp only [List.map_cons, List.map_append, List.cons_append, List.map_nil]
def termsL (a b : Int) (row : List Int) : List Int := a :: if a = b then [] else row.map (· * (b - a))
theorem mul_small (f d : Int) (hf : -100 ≤ f ∧ f ≤ 100) (hd : -4194304 ≤ d ∧ d ≤ 4194304) : -1000000000 ≤ f * d ∧ f * d ≤ 1000000000 := by
  have h1 : f * d ≤ 100 * 4194304 := by
    rcases Int.le_total 0 f with h | h <;> rcases Int.le_total 0 d with h' | h'
    · exact Int.mul_le_mul hf.2 hd.2 h' (by omega)
    · have := Int.mul_nonneg h (show 0 ≤ -d by omega); rw [Int.mul_neg] at this; omega
    · have := Int.mul_nonneg (show 0 ≤ -f by omega) h'; rw [Int.neg_mul] at this; omega
    · have := Int.mul_le_mul (show -f ≤ 100 by omega) (show -d ≤ 4194304 by omega) (by omega) (by omega); rw [Int.neg_mul_neg] at this; omega
  have h2 : -(f * d) ≤ 100 * 4194304 := by
    rcases Int.le_total 0 f with h | h <;> rcases Int.le_total 0 d with h' | h'
    · have := Int.mul_nonneg h h'; omega
    · have := Int.mul_le_mul hf.2 (show -d ≤ 4194304 by omega) (by omega) (by omega); rw [Int.mul_neg] at this; omega
    · have := Int.mul_le_mul (show -f ≤ 100 by omega) hd.2 h' (by omega); rw [Int.neg_mul] at this; omega
    · have := Int.mul_nonneg (show 0 ≤ -f by omega) (show 0 ≤ -d by omega); rw [Int.neg_mul_neg] at this; omega
  omega
set_option maxHeartbeats 1000000 in
theorem terms_any (a b : Int) (row : List Int) (v : Value) (w : World) (lo B : Nat) (hB : B ≤ w.heap.size) (ha : -2097152 ≤ a ∧ a ≤ 2097152) (hb : -2097152 ≤ b ∧ b ≤ 2097152) (hr : ∀ f ∈ row, -100 ≤ f ∧ f ≤ 100) (hl : row.length ≤ 100)
    (h : Sees w lo B 1 v row.length (ints row)) :
    Calls Tryz.prog 97 #[.int .i64 a, .int .i64 b, v] w fun e w' => ∃ v', e = .returned v' ∧ Sees w' w.heap.size w'.heap.size 1 v' (termsL a b row).length (ints (termsL a b row)) ∧ Below w.heap.size w w' := by
  obtain ⟨i0, hi, hz0, hz1, hz2⟩ := info_parts int_info
  obtain ⟨A, c, hv⟩ := h.slice
  subst hv
  obtain ⟨ha1, ha2⟩ := ha
  obtain ⟨hb1, hb2⟩ := hb
  by_cases hab : a = b
  · have h1 : (a != b) = false := by simp [hab]
    have HT : Hid (termsL a b row = [a]) := by unfold termsL Hid; rw [if_pos hab]
    clear hab
    go_enter Tryz.func97, Tryz.ntmps97
    go_wp2
    go_ret
    refine ⟨_, rfl, ?_, (Below.refl _ _).alloc (Nat.le_refl _) _⟩
    rw [HT.out]
    exact (Sees.own (own_new w [.int .i64 a] 1 _ 1 3 rfl rfl (by decide)))
  · have h1 : (a != b) = true := by simp [hab]
    have HT : Hid (termsL a b row = a :: row.map (· * (b - a))) := by unfold termsL Hid; rw [if_neg hab]
    clear hab
    go_enter Tryz.func97, Tryz.ntmps97
    go_wp2
    go_loopw [7, 9, 17] (fun v _ i wr => ∃ k : Nat, k ≤ row.length ∧ i = .int .i64 k ∧ wr.ownsRow w.heap.size 3 1 v (k + 1) (ints (termsTo a b row k)) ∧ Below w.heap.size w wr) (fun _ _ i _ => row.length - (intOf i).toNat)
    case atStart => exact ⟨0, Nat.zero_le _, rfl, own_new w [.int .i64 a] 1 _ 1 3 rfl rfl (by decide), (Below.refl _ _).alloc (Nat.le_refl _) _⟩
    case round =>
      obtain ⟨k, hk, rfl, hown, hbel⟩ := hrel
      by_cases hlt : k < row.length
      · obtain ⟨b', o, c', e, _, hb', hc⟩ := (h.below (hbel.mono hB)).pos (by omega)
        have hcell := hc k (.int .i64 row[k]) (ints_at row k hlt)
        cases e
        clear hc h
        have hm := mul_small row[k] (b - a) (hr _ (List.getElem_mem hlt)) (by omega)
        obtain ⟨hm1, hm2⟩ := hm
        clear hr
        go_wp2_with (at_builtin; refine wpList_append_own _ rfl (.tmp 21) (.tmp 27) 63 rfl w.heap.size 3 i0 (.int .i64 0) 1 8 Tryz.underlying63 hi hz0 hz1 hz2 rfl (by decide) _ _ _ rfl (hown.alloc _) ⟨_, 0, none⟩ 1 1 [.int .i64 (row[k] * (b - a))] rfl rfl ?c1 ?c2 ?c3 ?c4 ?c5 ?_)
        case c1 => exact cell_one_new _ _ _
        case c2 => simp [Value.oneCell']
        case c3 => unfold maxLen; omega
        case c4 => omega
        case c5 => have := hbel.size; simp; omega
        intro v' w1 hown1 hg1 _
        rw [termsTo_succ a b row k hlt] at hown1
        have hbel1 : Below w.heap.size w w1 := (hbel.alloc hbel.size _).grown hg1 (by have := hbel.size; simp; omega) (fun j hj => (hown.lt j hj).1)
        clear hown hbel hg1
        go_wp2
        go_roundw
        case rel => exact ⟨k + 1, by omega, by go_num, hown1, hbel1⟩
        case measure => simp [intOf]; omega
      · have hkl : Hid (k = row.length) := by unfold Hid; omega
        go_wp2
        go_ret
        refine ⟨_, rfl, ?_, hbel⟩
        rw [HT.out]
        have e1 : termsTo a b row k = a :: row.map (· * (b - a)) := by unfold termsTo; rw [List.take_of_length_le (by rw [hkl.out]; exact Nat.le_refl _)]
        have e2 : (a :: row.map (· * (b - a))).length = k + 1 := by simp [hkl.out]
        rw [e2, ← e1]
        exact Sees.own hown
end Go.Proofs.YtolmehmglgmanaaGreatDoor
