/- What Glide, Line and Hover give: the walks of fly and its callers. -/
import Derived.Test.YtolmehmglgmanaaGreatDoorGlide2
import Derived.Test.YtolmehmglgmanaaGreatDoorPath
namespace Go.Proofs.YtolmehmglgmanaaGreatDoor
open Go.RowKit

def legS (a b : V3) (f t k : Int) : Sg := ⟨f, t, 1, termsL a.x b.x (kindRow k), termsL a.y b.y (kindRow k), termsL a.z b.z (kindRow k)⟩
def V3.pt (a : V3) : Bool := ptB a.x a.y a.z
def flyB (a b : V3) (f t : Int) : Bool := glValidB a.x a.y a.z b.x b.y b.z f t
/-- The path and the error of fly. -/
def FlyPost (w : World) (a b : V3) (f t k : Int) (e : Ending) (w' : World) : Prop :=
  if flyB a b f t = true then ∃ v, e = .returned (.tuple #[v, .int .i64 0]) ∧ PathAt w' w.heap.size w'.heap.size v [legS a b f t k] ∧ Below w.heap.size w w'
  else e = .returned (.tuple #[.slice none 0 0, .int .i64 2]) ∧ Below w.heap.size w w'
theorem pt_wide {x y z : Int} (h : ptB x y z = true) : (-2097152 ≤ x ∧ x ≤ 2097152) ∧ (-2097152 ≤ y ∧ y ≤ 2097152) ∧ (-2097152 ≤ z ∧ z ≤ 2097152) := by
  have := (ptB_iff x y z).1 h
  omega
set_option maxRecDepth 100000 in
set_option maxHeartbeats 1000000 in
theorem fly_any (x y z x' y' z' f t k : Int) (w : World) (hk : kindV k) :
    Calls Tryz.prog 70 #[.agg #[.int .i64 x, .int .i64 y, .int .i64 z], .agg #[.int .i64 x', .int .i64 y', .int .i64 z'], .int .i64 f, .int .i64 t, .int .i64 k] w (FlyPost w ⟨x, y, z⟩ ⟨x', y', z'⟩ f t k) := by
  have HK := Lib.hid hk
  clear hk
  cases hv : glValidB x y z x' y' z' f t
  · have HV := Lib.hid hv
    clear hv
    go_enter Tryz.func70, Tryz.ntmps70
    go_wp2_with fail
    refine (glValid_any _ _ _ _ _ _ _ _ _).mono ?_
    rintro e w1 ⟨rfl, hb⟩
    rw [HV.out]
    have hB := (((Below.refl _ _).alloc (Nat.le_refl _) _).alloc (by simp) _).trans (hb.mono (show w.heap.size ≤ _ by simp; omega))
    go_wp2
    go_ret2
    unfold FlyPost
    rw [if_neg (by show ¬ glValidB x y z x' y' z' f t = true; rw [HV.out]; simp)]
    exact ⟨rfl, hB⟩
  · have HV := Lib.hid hv
    have hp : ptB x y z = true ∧ ptB x' y' z' = true := by
      unfold glValidB at hv; simp at hv; exact ⟨hv.1.1.1.1, hv.1.1.1.2⟩
    have HP := Lib.hid hp
    clear hv hp
    go_enter Tryz.func70, Tryz.ntmps70
    go_wp2_with fail
    refine (glValid_any _ _ _ _ _ _ _ _ _).mono ?_
    rintro e w1 ⟨rfl, hb⟩
    rw [HV.out]
    have hz := hb.size
    have hB := (((Below.refl _ _).alloc (Nat.le_refl _) _).alloc (by simp) _).trans (hb.mono (show w.heap.size ≤ _ by simp; omega))
    obtain ⟨hc, hf⟩ := bcell hb
    simp at hz hc
    go_wp2_with fail
    have h1 := pt_wide HP.out.1
    have h2 := pt_wide HP.out.2
    refine (leg_any _ _ _ _ _ _ _ _ _ _ HK.out h1.1 h1.2.1 h1.2.2 h2.1 h2.2.1 h2.2.2).mono ?_
    rintro e w2 ⟨vx, vy, vz, rfl, hx, hy, hz', hb2⟩
    clear hc hf h1 h2
    obtain ⟨Ax, cx, rfl⟩ := hx.slice
    obtain ⟨Ay, cy, rfl⟩ := hy.slice
    obtain ⟨Az, cz, rfl⟩ := hz'.slice
    go_wp2
    go_ret2
    unfold FlyPost
    rw [if_pos (show flyB ⟨x, y, z⟩ ⟨x', y', z'⟩ f t = true from HV.out)]
    have hz2 := hb2.size
    have hal : Below w2.heap.size w2 (w2.alloc (.cells #[.int .i64 f, .int .i64 t, .int .i64 1, .slice Ax (termsL x x' (kindRow k)).length cx, .slice Ay (termsL y y' (kindRow k)).length cy, .slice Az (termsL z z' (kindRow k)).length cz] 166)) := (Below.refl _ _).alloc (Nat.le_refl _) _
    refine ⟨_, rfl, ⟨_, Sees.new1 w2 [.int .i64 f, .int .i64 t, .int .i64 1, .slice Ax (termsL x x' (kindRow k)).length cx, .slice Ay (termsL y y' (kindRow k)).length cy, .slice Az (termsL z z' (kindRow k)).length cz] 1 _ _ _ 6 166 rfl rfl (by omega) (by simp), ?_⟩, hB.trans ((hb2.mono (by omega)).trans (hal.mono (by omega)))⟩
    exact Segs.one ⟨_, _, _, rfl, (hx.up hal).more (by omega) (Nat.le_refl _), (hy.up hal).more (by omega) (Nat.le_refl _), (hz'.up hal).more (by omega) (Nat.le_refl _)⟩
theorem FlyPost.below {w w0 : World} {a b : V3} {f t k : Int} {e : Ending} {w' : World} (h : FlyPost w a b f t k e w') (hb : Below w0.heap.size w0 w) : FlyPost w0 a b f t k e w' := by
  unfold FlyPost at *
  split at h
  · rename_i hf
    obtain ⟨v, he, hp, hbw⟩ := h
    rw [if_pos hf]
    exact ⟨v, he, hp.more hb.size (Nat.le_refl _), hb.trans (hbw.mono hb.size)⟩
  · rename_i hf
    rw [if_neg hf]
    exact ⟨h.1, hb.trans (h.2.mono hb.size)⟩
theorem FlyPost.out {w : World} {a b : V3} {f t k : Int} {e : Ending} {w' : World} (h : FlyPost w a b f t k e w') : ∃ A n c q, e = .returned (.tuple #[.slice A n c, .int .i64 q]) := by
  unfold FlyPost at h
  split at h
  · obtain ⟨v, he, hp, _⟩ := h
    obtain ⟨A, c, rfl⟩ := hp.slice
    exact ⟨A, _, c, 0, he⟩
  · exact ⟨none, 0, 0, 2, h.1⟩
set_option maxHeartbeats 400000 in
theorem glide_any (x y z x' y' z' f t : Int) (w : World) :
    Calls Tryz.prog 56 #[.agg #[.int .i64 x, .int .i64 y, .int .i64 z], .agg #[.int .i64 x', .int .i64 y', .int .i64 z'], .int .i64 f, .int .i64 t] w (FlyPost w ⟨x, y, z⟩ ⟨x', y', z'⟩ f t 2) := by
  go_enter Tryz.func56, Tryz.ntmps56
  go_wp2_with fail
  refine (fly_any _ _ _ _ _ _ _ _ _ _ (.inr (.inr rfl))).mono ?_
  intro e w1 h
  have h2 := h.below (((Below.refl _ _).alloc (Nat.le_refl _) _).alloc (by simp) _)
  obtain ⟨A, n, c, q, rfl⟩ := h.out
  have H2 := Lib.hid h2
  clear h h2
  go_wp2
  go_ret2
  exact H2.out
set_option maxHeartbeats 400000 in
theorem hover_any (x y z f t : Int) (w : World) :
    Calls Tryz.prog 55 #[.agg #[.int .i64 x, .int .i64 y, .int .i64 z], .int .i64 f, .int .i64 t] w (FlyPost w ⟨x, y, z⟩ ⟨x, y, z⟩ f t 0) := by
  go_enter Tryz.func55, Tryz.ntmps55
  go_wp2_with fail
  refine (fly_any _ _ _ _ _ _ _ _ _ _ (.inl rfl)).mono ?_
  intro e w1 h
  have h2 := h.below ((Below.refl _ _).alloc (Nat.le_refl _) _)
  obtain ⟨A, n, c, q, rfl⟩ := h.out
  have H2 := Lib.hid h2
  clear h h2
  go_wp2
  go_ret2
  exact H2.out
end Go.Proofs.YtolmehmglgmanaaGreatDoor
