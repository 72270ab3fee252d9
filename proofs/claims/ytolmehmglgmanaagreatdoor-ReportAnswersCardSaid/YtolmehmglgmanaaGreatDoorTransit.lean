/- What a valid move is, and its path: the walks of the layer of changes. -/
import Derived.Test.YtolmehmglgmanaaGreatDoorFly
import Derived.BigGuardPart
namespace Go.Proofs.YtolmehmglgmanaaGreatDoor
open Go.RowKit

def tmB (n : Int) : Bool := decide (0 ≤ n) && decide (n ≤ 3600000)
theorem tmB_iff (n : Int) : tmB n = true ↔ 0 ≤ n ∧ n ≤ 3600000 := by unfold tmB; simp
def hiB (x y z r : Int) : Bool := ptB x y (z + r)
set_option maxHeartbeats 400000 in
theorem time_any (n : Int) (w : World) : Calls Tryz.prog 45 #[.int .i64 n] w fun e w' => e = .returned (.bool (tmB n)) ∧ w = w' := by
  by_cases h1 : 0 ≤ n
  · go_enter Tryz.func45, Tryz.ntmps45
    go_wp2
    go_ret
    exact ⟨ret_bool (by unfold tmB; simp [h1]), rfl⟩
  · go_enter Tryz.func45, Tryz.ntmps45
    go_wp2
    go_ret
    exact ⟨ret_bool (by unfold tmB; simp; omega), rfl⟩
set_option maxHeartbeats 400000 in
theorem higher_any (x y z r : Int) (w : World) (hz : -1048576 ≤ z ∧ z ≤ 1048576) (hr : 0 ≤ r ∧ r ≤ 3600000) :
    Calls Tryz.prog 53 #[.agg #[.int .i64 x, .int .i64 y, .int .i64 z], .int .i64 r] w fun e w' => e = .returned (.bool (hiB x y z r)) ∧ Below w.heap.size w w' := by
  obtain ⟨z1, z2⟩ := hz
  obtain ⟨r1, r2⟩ := hr
  go_enter Tryz.func53, Tryz.ntmps53
  go_wp2_with fail
  refine (point_pt _ _ _ _).mono ?_
  rintro e w1 ⟨rfl, hb⟩
  go_wp2
  go_ret
  exact ⟨rfl, ((Below.refl _ _).alloc (Nat.le_refl _) _).trans (hb.mono (by simp))⟩
def mvB (fx fy fz tx ty tz wait flight rise len : Int) : Bool :=
  ptB tx ty tz && tmB wait && tmB flight && tmB rise && decide (wait + flight ≤ len) &&
    (if flight = 0 then (tx == fx && (ty == fy && tz == fz)) && decide (rise = 0) else if 0 < rise then decide (flight % 4 = 0) && hiB fx fy fz rise && hiB tx ty tz rise else true)
theorem mvB_eq {fx fy fz tx ty tz wait flight rise len : Int} (h1 : ptB tx ty tz = true) (hT : (tmB wait && tmB flight && tmB rise) = true) : mvB fx fy fz tx ty tz wait flight rise len =
    (decide (wait + flight ≤ len) && (if flight = 0 then (tx == fx && (ty == fy && tz == fz)) && decide (rise = 0) else if 0 < rise then decide (flight % 4 = 0) && hiB fx fy fz rise && hiB tx ty tz rise else true)) := by
  simp only [Bool.and_eq_true] at hT
  unfold mvB
  rw [h1, hT.1.1, hT.1.2, hT.2]
  rfl
theorem time_yes (n : Int) (w : World) (h : 0 ≤ n ∧ n ≤ 3600000) : Calls Tryz.prog 45 #[.int .i64 n] w fun e w' => e = .returned (.bool true) ∧ w = w' :=
  (time_any n w).mono fun e w' ⟨he, hw⟩ => ⟨by rw [he, (tmB_iff n).2 h], hw⟩
set_option maxRecDepth 100000 in
set_option maxHeartbeats 1000000 in
theorem mvValid_any (fx fy fz tx ty tz wait flight rise len : Int) (w : World) (hf : ptB fx fy fz = true) :
    Calls Tryz.prog 46 #[.agg #[.int .i64 fx, .int .i64 fy, .int .i64 fz], .agg #[.int .i64 tx, .int .i64 ty, .int .i64 tz, .int .i64 wait, .int .i64 flight, .int .i64 rise], .int .i64 len] w fun e w' => e = .returned (.bool (mvB fx fy fz tx ty tz wait flight rise len)) ∧ Below w.heap.size w w' := by
  cases h1 : ptB tx ty tz
  · have HF : Hid (mvB fx fy fz tx ty tz wait flight rise len = false) := by unfold mvB Hid; simp [h1]
    have H1 := Lib.hid h1
    clear h1 hf
    go_enter Tryz.func46, Tryz.ntmps46
    go_wp2_with fail
    refine (point_pt _ _ _ _).mono ?_
    rintro e w1 ⟨rfl, hb⟩
    rw [H1.out]
    go_wp2_with fail
    go_ret
    exact ⟨ret_bool HF.out.symm, (((Below.refl _ _).alloc (Nat.le_refl _) _).alloc (by simp) _).trans (hb.mono (by simp; omega))⟩
  · have H1 := Lib.hid h1
    have HF := Lib.hid hf
    clear h1 hf
    by_cases hT : (tmB wait && tmB flight && tmB rise) = true
    · have HT := Lib.hid hT
      simp only [Bool.and_eq_true, tmB_iff] at hT
      obtain ⟨⟨⟨t1, t2⟩, t3, t4⟩, t5, t6⟩ := hT
      have B1 : Hid (-1048576 ≤ fz ∧ fz ≤ 1048576) := ((ptB_iff _ _ _).1 HF.out).2.2
      have B2 : Hid (-1048576 ≤ tz ∧ tz ≤ 1048576) := ((ptB_iff _ _ _).1 H1.out).2.2
      go_enter Tryz.func46, Tryz.ntmps46
      go_wp2_with fail
      refine (point_pt _ _ _ _).mono ?_
      rintro e w1 ⟨rfl, hb⟩
      rw [H1.out]
      have hz := hb.size
      have hB := (((Below.refl _ _).alloc (Nat.le_refl _) _).alloc (by simp) _).trans (hb.mono (show w.heap.size ≤ _ by simp; omega))
      obtain ⟨hc, hfz⟩ := bcell hb
      simp at hz hc
      go_wp2_with (first
        | (go_at_call 45
           refine (time_yes _ _ ?_).mono ?_
           · omega
           rintro e w' ⟨rfl, rfl⟩)
        | (go_at_call 53
           refine (higher_any _ _ _ _ _ ?_ ?_).mono ?_
           · first | exact B1.out | exact B2.out
           · omega
           rintro e w2 ⟨rfl, hb2⟩
           have hB := hB.trans (hb2.mono hB.size)
           have hc2 : ∀ b o, b < w.heap.size + 1 + 1 → w2.cell? ⟨b, o, none⟩ = _ := fun b o h => hb2.cell (p := ⟨b, o, none⟩) (show b < _ by omega)
           have hz := Nat.le_trans hz hb2.size))
      all_goals
        go_ret
        refine ⟨ret_bool ?_, by assumption⟩
        rw [mvB_eq H1.out HT.out]
        clear hc
        go_light
        (try simp only [beq_iff_eq, beq_eq_false_iff_ne, ne_eq] at *)
        first
          | (simp [*]; done)
          | (simp [*]; omega)
          | (rw [Bool.eq_iff_iff]; simp [*]; omega)
    · have HT : Hid (mvB fx fy fz tx ty tz wait flight rise len = false) := by
        unfold mvB Hid
        cases a1 : tmB wait <;> cases a2 : tmB flight <;> cases a3 : tmB rise <;> simp_all
      have HN := Lib.hid hT
      clear hT
      go_enter Tryz.func46, Tryz.ntmps46
      go_wp2_with fail
      refine (point_pt _ _ _ _).mono ?_
      rintro e w1 ⟨rfl, hb⟩
      rw [H1.out]
      have hz := hb.size
      have hB := (((Below.refl _ _).alloc (Nat.le_refl _) _).alloc (by simp) _).trans (hb.mono (show w.heap.size ≤ _ by simp; omega))
      obtain ⟨hc, hfz⟩ := bcell hb
      simp at hz hc
      go_wp2_with (go_at_call 45; refine (time_any _ _).mono ?_; rintro e w' ⟨rfl, rfl⟩)
      all_goals first
        | (exfalso; apply HN.out; simp [*]; done)
        | (go_ret; exact ⟨ret_bool HT.out.symm, hB⟩)
end Go.Proofs.YtolmehmglgmanaaGreatDoor
