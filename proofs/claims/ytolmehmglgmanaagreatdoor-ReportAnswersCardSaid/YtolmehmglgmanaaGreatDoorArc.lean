/- A glide over more height: the walk of Arc. -/
import Derived.Test.YtolmehmglgmanaaGreatDoorTour
import Derived.Test.YtolmehmglgmanaaGreatDoorTransit
namespace Go.Proofs.YtolmehmglgmanaaGreatDoor
open Go.RowKit

def V3.up (a : V3) (r : Int) : V3 := ⟨a.x, a.y, a.z + r⟩
def arcP (a b : V3) (r : Int) : List V3 := [a, a.up r, b.up r, b]
def arcT (f t : Int) : List Int := [f, f + (t - f) / 4, t - (t - f) / 4, t]
def arcL (a b : V3) (r f t : Int) : List Sg := legsL (arcP a b r) (arcT f t)
theorem arcL_len (a b : V3) (r f t : Int) : (arcL a b r f t).length = 3 := by unfold arcL; rw [legsL_len]; rfl
theorem arc_tour {x y z x' y' z' r f t : Int} (hv : flyB ⟨x, y, z⟩ ⟨x', y', z'⟩ f t = true) (hq : (t - f) % 4 = 0) (h1 : ptB x y (z + r) = true) (h2 : ptB x' y' (z' + r) = true) : tourB (arcP ⟨x, y, z⟩ ⟨x', y', z'⟩ r) (arcT f t) := by
  unfold flyB glValidB at hv
  simp only [Bool.and_eq_true, decide_eq_true_eq] at hv
  obtain ⟨⟨⟨⟨p1, p2⟩, t1⟩, t2⟩, t3⟩ := hv
  intro k hk
  have hk4 : k < 4 := hk
  match k, hk4 with
  | 0, _ => exact ⟨p1, by simp [arcT]; omega, by simp [arcT]; omega⟩
  | 1, _ => exact ⟨h1, by simp [arcT]; omega, by simp [arcT]; omega⟩
  | 2, _ => exact ⟨h2, by simp [arcT]; omega, by simp [arcT]; omega⟩
  | 3, _ => exact ⟨p2, by simp [arcT]; omega, by simp [arcT]; omega⟩
set_option maxRecDepth 100000 in
set_option maxHeartbeats 4000000 in
theorem arc_any (x y z x' y' z' r f t : Int) (w : World) (hv : flyB ⟨x, y, z⟩ ⟨x', y', z'⟩ f t = true) (hq : (t - f) % 4 = 0) (hr : -2097152 ≤ r ∧ r ≤ 2097152) (h1 : ptB x y (z + r) = true) (h2 : ptB x' y' (z' + r) = true) :
    Calls Tryz.prog 57 #[.agg #[.int .i64 x, .int .i64 y, .int .i64 z], .agg #[.int .i64 x', .int .i64 y', .int .i64 z'], .int .i64 r, .int .i64 f, .int .i64 t] w fun e w' => ∃ A c, e = .returned (.tuple #[.slice A 3 c, .int .i64 0]) ∧
      PathAt w' w.heap.size w'.heap.size (.slice A 3 c) (arcL ⟨x, y, z⟩ ⟨x', y', z'⟩ r f t) ∧ Below w.heap.size w w' := by
  have hv' := hv
  unfold flyB glValidB at hv'
  simp only [Bool.and_eq_true, decide_eq_true_eq] at hv'
  obtain ⟨⟨⟨⟨p1, p2⟩, t1⟩, t2⟩, t3⟩ := hv'
  have b1 := (ptB_iff _ _ _).1 p1
  have b2 := (ptB_iff _ _ _).1 p2
  obtain ⟨r1, r2⟩ := hr
  obtain ⟨_, _, z1, z2⟩ := b1
  obtain ⟨_, _, z3, z4⟩ := b2
  have q4 : ¬ (4 * ((t - f) / 4) ≠ t - f) := by omega
  have HV := Lib.hid hv
  have H1 := Lib.hid h1
  have H2 := Lib.hid h2
  have P1 := Lib.hid p1
  have P2 := Lib.hid p2
  have HQ := Lib.hid hq
  clear hv h1 h2 p1 p2 hq
  go_enter Tryz.func57, Tryz.ntmps57
  go_wp2_with fail
  refine (glValid_any _ _ _ _ _ _ _ _ _).mono ?_
  rintro e w1 ⟨rfl, hb⟩
  rw [show glValidB x y z x' y' z' f t = true from HV.out]
  have hz := hb.size
  have hB := (((Below.refl _ _).alloc (Nat.le_refl _) _).alloc (by simp) _).trans (hb.mono (show w.heap.size ≤ _ by simp; omega))
  obtain ⟨hc, hf⟩ := bcell hb
  simp at hz hc hf
  have hz0 : w.heap.size < w1.heap.size := by omega
  have hz1 : w.heap.size + 1 < w1.heap.size := by omega
  go_wp2_with fail
  go_region
  all_goals
    go_wp2_with fail
    refine (point_pt _ _ _ _).mono ?_
    rintro e w2 ⟨rfl, hb2⟩
    rw [H1.out]
    have hz2 := hb2.size
    obtain ⟨hc2, hf2⟩ := bcell hb2
    simp at hz2 hc2
    have hB2 := ((((Below.refl _ w1).alloc (Nat.le_refl _) _).alloc (by simp) _).drew).trans (hb2.mono (show w1.heap.size ≤ _ by simp; omega))
    clear hb2 hf2
    have y0 : w.heap.size < w1.heap.size + 1 + 1 := by omega
    have y1 : w.heap.size + 1 < w1.heap.size + 1 + 1 := by omega
    have y2 : w.heap.size < w1.heap.size + 1 := by omega
    have y3 : w.heap.size + 1 < w1.heap.size + 1 := by omega
    go_wp2_with fail
    refine (point_pt _ _ _ _).mono ?_
    rintro e w3 ⟨rfl, hb3⟩
    rw [H2.out]
    have hz3 := hb3.size
    have y4 : w1.heap.size + 1 < w2.heap.size := by omega
    have y5 : w1.heap.size < w2.heap.size := by omega
    have y6 : w.heap.size < w2.heap.size := by omega
    have y7 : w.heap.size + 1 < w2.heap.size := by omega
    obtain ⟨hc3, hf3⟩ := bcell hb3
    have hB3 := hB.trans ((hB2.trans (hb3.mono hB2.size)).mono hB.size)
    clear hb3 hf3
    go_wp2_with fail
    have hA : Below w.heap.size w ((w3.alloc (.cells #[.int .i64 x, .int .i64 y, .int .i64 z, .int .i64 x, .int .i64 y, .int .i64 (z + r), .int .i64 x', .int .i64 y', .int .i64 (z' + r), .int .i64 x', .int .i64 y', .int .i64 z'] 95)).alloc (.cells #[.int .i64 f, .int .i64 (f + (t - f) / 4), .int .i64 (t - (t - f) / 4), .int .i64 t] 3)) := (hB3.alloc hB3.size _).alloc (by simp; have := hB3.size; omega) _
    refine (tour_any (arcP ⟨x, y, z⟩ ⟨x', y', z'⟩ r) (arcT f t) _ _ _ ?_ ?_ rfl (show 2 ≤ 4 by decide) (show 4 ≤ 257 by decide) ?_).mono ?_
    · exact (Sees.new1 w3 (vecs (arcP ⟨x, y, z⟩ ⟨x', y', z'⟩ r)) 4 _ 0 (w3.heap.size + 1) 3 95 rfl rfl (Nat.zero_le _) (by omega)).below ((Below.refl _ _).alloc (by simp) _) |>.more (Nat.le_refl _) (by simp)
    · exact (Sees.new1 _ (ints (arcT f t)) 4 _ 0 _ 1 3 rfl (by simp) (Nat.zero_le _) (by simp))
    · exact arc_tour HV.out HQ.out H1.out H2.out
    rintro e w4 ⟨A, c, rfl, hp, hb4⟩
    have e3 : (arcP ⟨x, y, z⟩ ⟨x', y', z'⟩ r).length - 1 = 3 := rfl
    rw [e3] at hp ⊢
    have hBe := hA.trans (hb4.mono hA.size)
    have HP := Lib.hid hp
    clear hc hc2 hc3 hp hb4 e3
    go_wp2_with fail
    go_ret2
    exact ⟨_, _, rfl, HP.out.more hA.size (Nat.le_refl _), hBe⟩
end Go.Proofs.YtolmehmglgmanaaGreatDoor
