/- What a valid name is: the walk of ValidName. -/
import Derived.Test.YtolmehmglgmanaaGreatDoorBase
namespace Go.Proofs.YtolmehmglgmanaaGreatDoor
open Go.RowKit
def letterB (c : UInt8) : Bool := (97 ≤ c.toNat && c.toNat ≤ 122) || (65 ≤ c.toNat && c.toNat ≤ 90)
def nameCharB (i : Nat) (c : UInt8) : Bool := letterB c || (decide (0 < i) && ((48 ≤ c.toNat && c.toNat ≤ 57) || c.toNat == 45 || c.toNat == 95))
def nameB (s : ByteArray) : Bool := (List.range s.size).all (fun i => nameCharB i (s.data.getD i 0)) && decide (1 ≤ s.size) && decide (s.size ≤ 32)
theorem nameCharB_iff (i : Nat) (c : UInt8) : nameCharB i c = true ↔ ((97 ≤ (c.toNat : Int) ∧ (c.toNat : Int) ≤ 122) ∨ (65 ≤ (c.toNat : Int) ∧ (c.toNat : Int) ≤ 90)) ∨ (0 < i ∧ ((48 ≤ (c.toNat : Int) ∧ (c.toNat : Int) ≤ 57) ∨ (c.toNat : Int) = 45 ∨ (c.toNat : Int) = 95)) := by
  unfold nameCharB letterB; simp; omega
theorem name_step (s : ByteArray) (k : Nat) (hlt : k < s.size) (h : (List.range k).all (fun i => nameCharB i (s.data.getD i 0)) = true) (hc : nameCharB k s[k] = true) :
    (List.range (k + 1)).all (fun i => nameCharB i (s.data.getD i 0)) = true := by
  have e : s.data.getD k 0 = s[k] := by rw [Array.getD, dif_pos (show k < s.data.size from hlt)]; rfl
  rw [List.range_succ, List.all_append, h]; simp only [List.all_cons, List.all_nil, e, hc, Bool.and_true]
theorem name_no (s : ByteArray) (k : Nat) (hlt : k < s.size) (hc : ¬ nameCharB k s[k] = true) : false = nameB s := by
  have e : s.data.getD k 0 = s[k] := by rw [Array.getD, dif_pos (show k < s.data.size from hlt)]; rfl
  have : (List.range s.size).all (fun i => nameCharB i (s.data.getD i 0)) = false := by
    rw [List.all_eq_false]; exact ⟨k, List.mem_range.2 hlt, by rw [e]; exact hc⟩
  unfold nameB; rw [this]; rfl
theorem nameB_end (s : ByteArray) (h : (List.range s.size).all (fun i => nameCharB i (s.data.getD i 0)) = true) : nameB s = (decide (1 ≤ s.size) && decide (s.size ≤ 32)) := by unfold nameB; rw [h]; rfl
set_option maxHeartbeats 400000 in
theorem validName_any (s : ByteArray) (w : World) (hs : s.size ≤ maxLen) :
    Calls Tryz.prog 18 #[.string s] w fun e w' => e = .returned (.bool (nameB s)) ∧ w = w' := by
  unfold maxLen at hs
  go_enter Tryz.func18, Tryz.ntmps18
  go_wp2
  go_loop [2, 3, 4, 7, 13, 28] (fun _ _ _ i _ _ => ∃ k : Nat, k ≤ s.size ∧ i = .int .i64 k ∧ Hid ((List.range k).all (fun i => nameCharB i (s.data.getD i 0)) = true)) (fun _ _ _ i _ _ => s.size - (intOf i).toNat)
  case atStart => exact ⟨0, Nat.zero_le _, rfl, rfl⟩
  case round =>
    obtain ⟨k, hk, rfl, HIN⟩ := hrel
    by_cases hlt : k < s.size
    · go_wp2
      all_goals first
        | exact ⟨⟨k + 1, by omega, by go_num, name_step s k hlt HIN.out ((nameCharB_iff _ _).2 (by clear HIN; go_light; (try simp only [beq_iff_eq, beq_eq_false_iff_ne, ne_eq] at *); omega))⟩, by simp [intOf]; omega⟩
        | (go_ret; exact ⟨ret_bool (name_no s k hlt (fun h => by clear HIN; go_light; have := (nameCharB_iff _ _).1 h; (try simp only [beq_iff_eq, beq_eq_false_iff_ne, ne_eq] at *); omega)), rfl⟩)
    · have e : k = s.size := by omega
      have HE := Lib.hid e
      clear e
      go_wp2
      all_goals
        go_ret
        refine ⟨ret_bool ?_, rfl⟩
        rw [nameB_end s (by rw [← HE.out]; exact HIN.out)]
        rw [Bool.eq_iff_iff]
        simp
        omega
end Go.Proofs.YtolmehmglgmanaaGreatDoor
