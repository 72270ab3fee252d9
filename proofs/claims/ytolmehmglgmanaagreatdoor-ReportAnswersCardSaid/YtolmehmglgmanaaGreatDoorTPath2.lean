/- transit.Path. -/
import Derived.Test.YtolmehmglgmanaaGreatDoorTPathR
namespace Go.Proofs.YtolmehmglgmanaaGreatDoor
open Go.RowKit

def tpB (a b : V3) (wait flight rise start len : Int) : Bool := ptB a.x a.y a.z && decide (1 ≤ len) && tmB len && tmB start && mvB a.x a.y a.z b.x b.y b.z wait flight rise len
def tpE (a b : V3) (wait flight rise start len : Int) : Int := if tpB a b wait flight rise start len = true then (if tmB (start + len) = true then 0 else 3) else 2
def tpL (a b : V3) (wait flight rise start len : Int) : List Sg := if tpE a b wait flight rise start len = 0 then pathR a b wait flight rise start len else []
def TPost (w : World) (a b : V3) (wait flight rise start len : Int) (e : Ending) (w' : World) : Prop :=
  ∃ A c, e = .returned (.tuple #[.slice A (tpL a b wait flight rise start len).length c, .int .i64 (tpE a b wait flight rise start len)]) ∧ PathAt w' w.heap.size w'.heap.size (.slice A (tpL a b wait flight rise start len).length c) (tpL a b wait flight rise start len) ∧ Below w.heap.size w w'
theorem tpost_no {w : World} {a b : V3} {wait flight rise start len : Int} {w' : World} (h : ¬ tpE a b wait flight rise start len = 0) (hb : Below w.heap.size w w') {q : Int} (hq : tpE a b wait flight rise start len = q) :
    TPost w a b wait flight rise start len (.returned (.tuple #[.slice none 0 0, .int .i64 q])) w' := by
  unfold TPost
  have e : tpL a b wait flight rise start len = [] := by unfold tpL; rw [if_neg h]
  rw [e, hq]
  exact ⟨none, 0, rfl, PathAt.nil _ _, hb⟩
theorem time_no (n : Int) (w : World) (h : tmB n = false) : Calls Tryz.prog 45 #[.int .i64 n] w fun e w' => e = .returned (.bool false) ∧ w = w' :=
  (time_any n w).mono fun e w' ⟨he, hw⟩ => ⟨by rw [he, h], hw⟩
theorem mv_parts {fx fy fz tx ty tz wait flight rise len : Int} (h : mvB fx fy fz tx ty tz wait flight rise len = true) : (0 ≤ wait ∧ wait ≤ 3600000) ∧ (0 ≤ flight ∧ flight ≤ 3600000) ∧ (0 ≤ rise ∧ rise ≤ 3600000) := by
  unfold mvB at h
  simp only [Bool.and_eq_true, tmB_iff] at h
  exact ⟨h.1.1.1.1.2, h.1.1.1.2, h.1.1.2⟩
theorem path_any (x y z x' y' z' wait flight rise start len : Int) (w : World) (ha : ptB x y z = true) (hm : mvB x y z x' y' z' wait flight rise len = true) (hs : 0 ≤ start ∧ start ≤ 3600000) (hl : 0 ≤ len ∧ len ≤ 3600000) (hend : start + len ≤ 3600000) :
    Calls Tryz.prog 47 #[.agg #[.int .i64 x, .int .i64 y, .int .i64 z], .agg #[.int .i64 x', .int .i64 y', .int .i64 z', .int .i64 wait, .int .i64 flight, .int .i64 rise], .int .i64 start, .int .i64 len] w fun e w' => ∃ v, e = .returned v ∧ PathAt w' w.heap.size w'.heap.size v (pathR ⟨x, y, z⟩ ⟨x', y', z'⟩ wait flight rise start len) ∧ Below w.heap.size w w' := by
  obtain ⟨hw, hf, hr⟩ := mv_parts hm
  by_cases h0 : flight = 0
  · rw [pathR_flat (.inl h0)]; exact path_hover x y z x' y' z' wait flight rise start len w h0 hs hl hw
  by_cases h1 : rise ≤ 0
  · rw [pathR_flat (.inr h1)]; exact path_move x y z x' y' z' wait flight rise start len w (by omega) h1 hs hl hw
  unfold mvB at hm
  rw [if_neg h0, if_pos (by omega)] at hm
  simp only [Bool.and_eq_true, decide_eq_true_eq] at hm
  obtain ⟨⟨⟨⟨⟨hb, _⟩, _⟩, _⟩, hle⟩, ⟨hq, g1⟩, g2⟩ := hm
  have b1 := (ptB_iff _ _ _).1 ha
  have b2 := (ptB_iff _ _ _).1 g1
  exact path_rise x y z x' y' z' wait flight rise start len w ⟨by omega, hf.2⟩ ⟨by omega, by omega⟩ hq ha hb g1 g2 (by omega) hs hl hw
set_option maxRecDepth 100000 in
set_option maxHeartbeats 2000000 in
theorem tPath_any (x y z x' y' z' wait flight rise start len : Int) (w : World) :
    Calls Tryz.prog 36 #[.agg #[.int .i64 x, .int .i64 y, .int .i64 z], .agg #[.int .i64 x', .int .i64 y', .int .i64 z', .int .i64 wait, .int .i64 flight, .int .i64 rise], .int .i64 start, .int .i64 len] w (TPost w ⟨x, y, z⟩ ⟨x', y', z'⟩ wait flight rise start len) := by
  by_cases hT : tpB ⟨x, y, z⟩ ⟨x', y', z'⟩ wait flight rise start len = true
  · have HT := Lib.hid hT
    unfold tpB at hT
    simp only [Bool.and_eq_true, decide_eq_true_eq, tmB_iff] at hT
    obtain ⟨⟨⟨⟨h1, l0⟩, l1, l2⟩, s1, s2⟩, hm⟩ := hT
    have H1 := Lib.hid h1
    have HM := Lib.hid hm
    have hp := mv_parts hm
    obtain ⟨⟨q1, q2⟩, ⟨q3, q4⟩, q5, q6⟩ := hp
    clear h1 hm
    by_cases hE : start + len ≤ 3600000
    · have HE0 : Hid (tpE ⟨x, y, z⟩ ⟨x', y', z'⟩ wait flight rise start len = 0) := by unfold Hid tpE; rw [if_pos HT.out, if_pos ((tmB_iff _).2 (by omega))]
      go_enter Tryz.func36, Tryz.ntmps36
      go_wp2_with fail
      refine (point_pt _ _ _ _).mono ?_
      rintro e wa ⟨rfl, hb⟩
      rw [H1.out]
      have hz := hb.size
      have hB := (((Below.refl _ _).alloc (Nat.le_refl _) _).alloc (by simp) _).trans (hb.mono (show w.heap.size ≤ _ by simp; omega))
      obtain ⟨hc, hfz⟩ := bcell hb
      simp at hz hc
      go_wp2_with (first
        | (go_at_call 45
           refine (time_yes _ _ ?_).mono ?_
           · omega
           rintro e w' ⟨rfl, rfl⟩)
        | (go_at_call 46
           refine (mvValid_any _ _ _ _ _ _ _ _ _ _ _ H1.out).mono ?_
           rintro e wb ⟨rfl, hb2⟩
           rw [HM.out]
           have hB := hB.trans (hb2.mono hB.size)
           have hc2 : ∀ b o, b < w.heap.size + 1 + 1 → wb.cell? ⟨b, o, none⟩ = _ := fun b o h => hb2.cell (p := ⟨b, o, none⟩) (show b < _ by omega))
        | (go_at_call 47
           refine (path_any _ _ _ _ _ _ _ _ _ _ _ _ H1.out HM.out ?_ ?_ ?_).mono ?_
           · omega
           · omega
           · omega
           rintro e wc ⟨v, rfl, hpa, hb3⟩
           obtain ⟨A, c, rfl⟩ := hpa.slice))
      go_ret2
      have eL : tpL ⟨x, y, z⟩ ⟨x', y', z'⟩ wait flight rise start len = pathR ⟨x, y, z⟩ ⟨x', y', z'⟩ wait flight rise start len := by unfold tpL; rw [if_pos HE0.out]
      unfold TPost
      rw [eL, HE0.out]
      exact ⟨A, c, rfl, hpa.more hB.size (Nat.le_refl _), hB.trans (hb3.mono hB.size)⟩
    · have HE0 : Hid (tpE ⟨x, y, z⟩ ⟨x', y', z'⟩ wait flight rise start len = 3) := by unfold Hid tpE; rw [if_pos HT.out, if_neg (by rw [tmB_iff]; omega)]
      have hEf : tmB (start + len) = false := by
        cases h : tmB (start + len)
        · rfl
        · rw [tmB_iff] at h; omega
      have HEf := Lib.hid hEf
      clear hEf
      go_enter Tryz.func36, Tryz.ntmps36
      go_wp2_with fail
      refine (point_pt _ _ _ _).mono ?_
      rintro e wa ⟨rfl, hb⟩
      rw [H1.out]
      have hz := hb.size
      have hB := (((Below.refl _ _).alloc (Nat.le_refl _) _).alloc (by simp) _).trans (hb.mono (show w.heap.size ≤ _ by simp; omega))
      obtain ⟨hc, hfz⟩ := bcell hb
      simp at hz hc
      go_wp2_with (first
        | (go_at_call 45
           refine (time_yes _ _ ?_).mono ?_
           · omega
           rintro e w' ⟨rfl, rfl⟩)
        | (go_at_call 45
           refine (time_no _ _ HEf.out).mono ?_
           rintro e w' ⟨rfl, rfl⟩)
        | (go_at_call 46
           refine (mvValid_any _ _ _ _ _ _ _ _ _ _ _ H1.out).mono ?_
           rintro e wb ⟨rfl, hb2⟩
           rw [HM.out]
           have hB := hB.trans (hb2.mono hB.size)))
      all_goals first
        | (exfalso; omega)
        | (go_ret2; exact tpost_no (by rw [HE0.out]; omega) hB HE0.out)
  · have HE0 : Hid (tpE ⟨x, y, z⟩ ⟨x', y', z'⟩ wait flight rise start len = 2) := by unfold Hid tpE; rw [if_neg hT]
    cases h1 : ptB x y z
    · have H1 := Lib.hid h1
      clear h1 hT
      go_enter Tryz.func36, Tryz.ntmps36
      go_wp2_with fail
      refine (point_pt _ _ _ _).mono ?_
      rintro e wa ⟨rfl, hb⟩
      rw [H1.out]
      have hB := (((Below.refl _ _).alloc (Nat.le_refl _) _).alloc (by simp) _).trans (hb.mono (show w.heap.size ≤ _ by simp; omega))
      go_wp2_with fail
      go_ret2
      exact tpost_no (by rw [HE0.out]; omega) hB HE0.out
    · have H1 := Lib.hid h1
      have HN : Hid (¬ (1 ≤ len ∧ tmB len = true ∧ tmB start = true ∧ mvB x y z x' y' z' wait flight rise len = true)) := by
        intro hh
        refine hT ?_
        unfold tpB
        simp [h1, hh.1, hh.2.1, hh.2.2.1, hh.2.2.2]
      clear h1 hT
      go_enter Tryz.func36, Tryz.ntmps36
      go_wp2_with fail
      refine (point_pt _ _ _ _).mono ?_
      rintro e wa ⟨rfl, hb⟩
      rw [H1.out]
      have hz := hb.size
      have hB := (((Below.refl _ _).alloc (Nat.le_refl _) _).alloc (by simp) _).trans (hb.mono (show w.heap.size ≤ _ by simp; omega))
      obtain ⟨hc, hfz⟩ := bcell hb
      simp at hz hc
      go_wp2_with (first
        | (go_at_call 45
           refine (time_any _ _).mono ?_
           rintro e w' ⟨rfl, rfl⟩)
        | (go_at_call 46
           refine (mvValid_any _ _ _ _ _ _ _ _ _ _ _ H1.out).mono ?_
           rintro e wb ⟨rfl, hb2⟩
           have hB := hB.trans (hb2.mono hB.size)))
      all_goals first
        | (exfalso; exact HN.out ⟨by assumption, by assumption, by assumption, by simpa using ‹(!mvB x y z x' y' z' wait flight rise len) = false›⟩)
        | (go_ret2; exact tpost_no (by rw [HE0.out]; omega) hB HE0.out)
end Go.Proofs.YtolmehmglgmanaaGreatDoor
