/- Cases of a program, and which answers can be written: the walks. -/
import Derived.Test.YtolmehmglgmanaaGreatDoorValid2
import Derived.Test.YtolmehmglgmanaaGreatDoorWords
namespace Go.Proofs.YtolmehmglgmanaaGreatDoor
open Go.RowKit

/-- What is asked of a program's sizes. -/
structure PrOk (p : Pr) : Prop where
  names : ∀ s ∈ p.names, s.size ≤ maxLen
  acts : ∀ a ∈ p.acts, a.name.size ≤ maxLen
  many : p.acts.length ≤ 1000000
  moves : ∀ a ∈ p.acts, a.moves.length ≤ 1000000
theorem valid_ok (p : Pr) (vn vh va : Value) (w : World) (hp : ProgAt w w.heap.size vn vh va p) (ho : PrOk p) :
    Calls Tryz.prog 7 #[.agg #[vn, vh, va]] w fun e w' => e = .returned (.bool (validB p)) ∧ Below w.heap.size w w' :=
  valid_any p vn vh va w hp ho.names ho.acts ho.many ho.moves
theorem ProgAt.up {w w' : World} {vn vh va : Value} {p : Pr} (h : ProgAt w w.heap.size vn vh va p) (hb : Below w.heap.size w w') : ProgAt w' w'.heap.size vn vh va p := (h.below hb).more hb.size
def caseB (p : Pr) (a k : Int) : Bool := validB p && decide (0 ≤ a) && decide (a < (p.names.length : Int)) && decide (0 ≤ k) && decide (k < (p.acts.length : Int))
theorem names_le {p : Pr} (h : validB p = true) : p.names.length ≤ 64 := by
  unfold validB crewB at h
  simp only [Bool.and_eq_true, decide_eq_true_eq] at h
  omega
set_option maxRecDepth 100000 in
set_option maxHeartbeats 1000000 in
theorem case_any (p : Pr) (vn vh va : Value) (a k : Int) (w : World) (hp : ProgAt w w.heap.size vn vh va p) (ho : PrOk p) :
    Calls Tryz.prog 37 #[.agg #[vn, vh, va], .agg #[.int .i64 a, .int .i64 k]] w fun e w' => e = .returned (.bool (caseB p a k)) ∧ Below w.heap.size w w' := by
  obtain ⟨An, cn, rfl⟩ := hp.names.slice
  obtain ⟨Ah, ch, rfl⟩ := hp.homes.slice
  obtain ⟨csA, ha, hacts⟩ := hp.acts
  obtain ⟨Aa, ca, rfl⟩ := ha.slice
  clear ha hacts
  go_enter Tryz.func37, Tryz.ntmps37
  go_wp2_with fail
  refine (valid_ok p _ _ _ _ (hp.up (((Below.refl _ _).alloc (Nat.le_refl _) _).alloc (by simp) _)) ho).mono ?_
  rintro e w1 ⟨rfl, hb1⟩
  have hB : Below w.heap.size w w1 := (((Below.refl _ _).alloc (Nat.le_refl _) _).alloc (by simp) _).trans (hb1.mono (by simp; omega))
  obtain ⟨hc, hf⟩ := bcell hb1
  clear hp
  have HE : Hid (∀ b : Bool, caseB p a k = b → (Ending.returned (.bool b) = .returned (.bool (caseB p a k)) ∧ Below w.heap.size w w1)) := fun b h => ⟨ret_bool h.symm, hB⟩
  cases hv : validB p with
  | false =>
    have HF : Hid (caseB p a k = false) := by unfold Hid; simp [caseB, hv]
    clear hv
    go_wp2_with fail
    go_ret
    exact HE.out _ HF.out
  | true =>
    have hn := names_le hv
    have hm := ho.many
    have HF : Hid (caseB p a k = (decide (0 ≤ a) && decide (a < (p.names.length : Int)) && decide (0 ≤ k) && decide (k < (p.acts.length : Int)))) := by unfold Hid; simp [caseB, hv]
    clear hv
    by_cases h1 : 0 ≤ a
    case neg =>
      have HG : Hid (caseB p a k = false) := by unfold Hid; rw [HF.out]; simp [h1]
      go_wp2_with fail
      go_ret
      exact HE.out _ HG.out
    by_cases h2 : a < (p.names.length : Int)
    case neg =>
      have HG : Hid (caseB p a k = false) := by unfold Hid; rw [HF.out]; simp [h2]
      go_wp2_with fail
      go_ret
      exact HE.out _ HG.out
    by_cases h3 : 0 ≤ k
    case neg =>
      have HG : Hid (caseB p a k = false) := by unfold Hid; rw [HF.out]; simp [h3]
      go_wp2_with fail
      go_ret
      exact HE.out _ HG.out
    have HG : Hid (caseB p a k = decide (k < (p.acts.length : Int))) := by unfold Hid; rw [HF.out]; simp [h1, h2, h3]
    go_wp2_with fail
    go_ret
    exact HE.out _ HG.out
/-- An answer. -/
structure An where
  ac : Int
  act : Int
  side : Int
  rel : Bool
  spare : Int
  wait : Int
  rise : Int
def An.val (a : An) : Value := .agg #[.int .i64 a.ac, .int .i64 a.act, .int .i64 a.side, .bool a.rel, .int .i64 a.spare, .int .i64 a.wait, .int .i64 a.rise]
def writtenB (p : Pr) (a : An) : Bool := caseB p a.ac a.act && (a.rel || (decide (a.spare = 0) && decide (a.wait = 0) && decide (a.rise = 0)))
set_option maxRecDepth 100000 in
set_option maxHeartbeats 1000000 in
theorem written_any (p : Pr) (vn vh va : Value) (a : An) (w : World) (hp : ProgAt w w.heap.size vn vh va p) (ho : PrOk p) :
    Calls Tryz.prog 22 #[.agg #[vn, vh, va], a.val] w fun e w' => e = .returned (.bool (writtenB p a)) ∧ Below w.heap.size w w' := by
  obtain ⟨A1, cn, rfl⟩ := hp.names.slice
  obtain ⟨Ah, ch, rfl⟩ := hp.homes.slice
  obtain ⟨csA, ha, hacts⟩ := hp.acts
  obtain ⟨Aa, ca, rfl⟩ := ha.slice
  clear ha hacts
  obtain ⟨ac, act, side, rel, sp, wt, rs⟩ := a
  simp only [An.val]
  go_enter Tryz.func22, Tryz.ntmps22
  go_wp2_with fail
  refine (case_any p _ _ _ ac act _ (hp.up (((Below.refl _ _).alloc (Nat.le_refl _) _).alloc (by simp) _)) ho).mono ?_
  rintro e w1 ⟨rfl, hb1⟩
  have hB : Below w.heap.size w w1 := (((Below.refl _ _).alloc (Nat.le_refl _) _).alloc (by simp) _).trans (hb1.mono (by simp; omega))
  obtain ⟨hc, hf⟩ := bcell hb1
  clear hp
  have HE : Hid (∀ b : Bool, writtenB p ⟨ac, act, side, rel, sp, wt, rs⟩ = b → (Ending.returned (.bool b) = .returned (.bool (writtenB p ⟨ac, act, side, rel, sp, wt, rs⟩)) ∧ Below w.heap.size w w1)) := fun b h => ⟨ret_bool h.symm, hB⟩
  cases hv : caseB p ac act with
  | false =>
    have HF : Hid (writtenB p ⟨ac, act, side, rel, sp, wt, rs⟩ = false) := by unfold Hid; simp [writtenB, hv]
    clear hv
    go_wp2_with fail
    go_ret
    exact HE.out _ HF.out
  | true =>
    have HF : Hid (writtenB p ⟨ac, act, side, rel, sp, wt, rs⟩ = (rel || (decide (sp = 0) && decide (wt = 0) && decide (rs = 0)))) := by unfold Hid; simp [writtenB, hv]
    clear hv
    cases rel with
    | true =>
      go_wp2_with fail
      go_ret
      exact HE.out _ (by rw [HF.out]; simp)
    | false =>
      go_wp2_with fail
      all_goals
        go_ret
        exact HE.out _ (by rw [HF.out]; simp [*])
end Go.Proofs.YtolmehmglgmanaaGreatDoor
